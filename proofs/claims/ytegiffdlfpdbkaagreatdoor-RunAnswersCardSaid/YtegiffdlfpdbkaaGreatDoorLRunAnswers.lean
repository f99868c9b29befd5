/- Any session is answered, line by line, as the document's desk answers, for every text. -/
import Derived.Test.YtegiffdlfpdbkaaGreatDoorRows
import Derived.Test.YtegiffdlfpdbkaaGreatDoorNum
import Derived.Test.YtegiffdlfpdbkaaGreatDoorBase
import Derived.Test.YtegiffdlfpdbkaaGreatDoorApp
import Derived.Test.YtegiffdlfpdbkaaGreatDoorFoot
import Derived.Test.YtegiffdlfpdbkaaGreatDoorOpen
import Derived.Test.YtegiffdlfpdbkaaGreatDoorLift
import Derived.Test.YtegiffdlfpdbkaaGreatDoorLiftD
import Derived.Test.YtegiffdlfpdbkaaGreatDoorLiftW
import Derived.Test.YtegiffdlfpdbkaaGreatDoorImg
import Derived.Test.YtegiffdlfpdbkaaGreatDoorParse
import Derived.Test.YtegiffdlfpdbkaaGreatDoorRefCut
import Derived.Test.YtegiffdlfpdbkaaGreatDoorRefL
import Derived.Test.YtegiffdlfpdbkaaGreatDoorCutW
import Derived.Test.YtegiffdlfpdbkaaGreatDoorRunP
import Derived.Test.YtegiffdlfpdbkaaGreatDoorRunL
import Derived.Test.YtegiffdlfpdbkaaGreatDoorRunS
import Derived.Test.YtegiffdlfpdbkaaGreatDoorRun1
import Derived.Test.YtegiffdlfpdbkaaGreatDoorRun10
import Derived.Test.YtegiffdlfpdbkaaGreatDoorRunT
import Derived.Test.YtegiffdlfpdbkaaGreatDoorRun3
import Derived.Test.YtegiffdlfpdbkaaGreatDoorDLine0
import Derived.Test.YtegiffdlfpdbkaaGreatDoorDLine
import Derived.WalkKit
import Derived.WalkSpells
import Derived.WalkLawsBesides
import Derived.Lib.Hide
import Derived.BigQuiet
import Derived.Deep.QuietTactic
import Derived.Deep.RegionHeld3
import Derived.Deep.DeepCutAuto
namespace Go.Proofs.YtegiffdlfpdbkaaGreatDoor
open Go.ChangeShapes Go.WideShapes Go.ChangeAt Go.RowKit
set_option maxRecDepth 100000
set_option linter.unusedVariables false
set_option linter.unusedSimpArgs false

theorem OwnC.cap {w : World} {base : Nat} {e : TypeId} {size : Nat} {A : Option Addr} {c n : Nat} {cs : List Value} (h : OwnC w base e size A c n cs) : n ≤ c := by
  rcases h.2 with ⟨hv, h0⟩ | ⟨g, cap, cur, hv, _, _, h1, _⟩
  · omega
  · injection hv with _ _ hv
    omega
set_option maxHeartbeats 2000000 in
theorem rCutP_any (s : ByteArray) (c : UInt8) (cz : Int) (hcz : cz = (c.toNat : Int)) (w : World) (hs : s.size ≤ 1048576) :
    Calls Tryz.prog 7 #[.string s, .int .u8 cz] w fun e w' => ∃ (A : Option Addr) (cp : Nat), e = .returned (.slice A (cutF s c s.size 0).length cp) ∧ CellsAt w' A (strCells (cutF s c s.size 0)) ∧ (∀ a, A = some a → w.heap.size ≤ a.block) ∧ (cutF s c s.size 0).length ≤ cp ∧ Below w.heap.size w w' := by
  obtain ⟨N, hN⟩ : ∃ N, cutF s c s.size 0 = N := ⟨_, rfl⟩
  rw [hN]
  have HN := Lib.hid hN
  have HZ := Lib.hid hcz
  clear hN hcz
  go_enter Tryz.func7, Tryz.ntmps7
  go_wp2_with fail
  go_loopw [5, 6, 7] (fun out f i wr => ∃ (A1 : Option Addr) (c1 n1 j k : Nat) (ls : List ByteArray), out = .slice A1 n1 c1 ∧ f = .int .i64 j ∧ i = .int .i64 k ∧ j ≤ k ∧ k ≤ s.size ∧ n1 ≤ k ∧ Hid (n1 = ls.length) ∧ Hid (OwnC wr w.heap.size 9 1 A1 c1 n1 (strCells ls)) ∧ Hid (N = ls ++ cutF s c (s.size - k) j) ∧ Below w.heap.size w wr) (fun _ _ i _ => s.size - (intOf i).toNat)
  case atStart => exact ⟨none, 0, 0, 0, 0, [], rfl, rfl, rfl, Nat.le_refl _, Nat.zero_le _, Nat.le_refl _, Lib.hid rfl, Lib.hid (OwnC.start _ _ _ _), Lib.hid (by rw [← HN.out]; rfl), (by repeat (first | (with_reducible exact grow_refl _) | (with_reducible assumption) | (with_reducible refine grow_alloc ?_ _) | (with_reducible refine grow_set ?_ (by first | exact Nat.le_refl _ | (simp; done) | (simp; omega) | omega) _) | (with_reducible refine grow_drewN ?_ _) | (with_reducible refine grow_drew ?_) | (with_reducible refine grow_step ?_ (by assumption)) | (with_reducible refine grow_base ?_ (by assumption))))⟩
  case round =>
    obtain ⟨A1, c1, n1, j, k, ls, rfl, rfl, rfl, hjk, hk, hn1, HN1, HO, HC, hb⟩ := hrel
    by_cases hlt : k < s.size
    · by_cases h1 : ((s[k]).toNat : Int) = cz
      · have HC2 : Hid (N = (ls ++ [s.extract j k]) ++ cutF s c (s.size - (k + 1)) (k + 1)) := Lib.hid (by
          rw [HC.out, cutF_hit hlt (by have := HZ.out; omega), List.append_assoc]; rfl)
        have HCA : Hid (CellsAt (wr.alloc (.cells #[.string (s.extract j k)] 9)) (some ⟨wr.heap.size, 0, none⟩) (strCells [s.extract j k])) := Lib.hid (CellsAt.new_ wr 9 [.string (s.extract j k)] (0, 0))
        have hww := hb.size
        go_wp2_with (at_builtin; refine app_cells rfl _ _ 23 9 rfl Tryz.underlying23 infoStr_ (by decide) (by decide) w.heap.size A1 c1 n1 (strCells ls) rfl (HO.out.below (grow_alloc (grow_refl _) _)) (some ⟨wr.heap.size, 0, none⟩) 1 1 (strCells [s.extract j k]) rfl HCA.out (by simp [strCells]) (strCells_one _) (by omega) (by omega) (by simp; omega) ?_; intro A2 c2 k2 w4 hk2 ho2 hb4)
        have hb5 : Below w.heap.size w w4 := grow_base (by repeat (first | (with_reducible exact grow_refl _) | (with_reducible assumption) | (with_reducible refine grow_alloc ?_ _) | (with_reducible refine grow_set ?_ (by first | exact Nat.le_refl _ | (simp; done) | (simp; omega) | omega) _) | (with_reducible refine grow_drewN ?_ _) | (with_reducible refine grow_drew ?_) | (with_reducible refine grow_step ?_ (by assumption)) | (with_reducible refine grow_base ?_ (by assumption)))) hb4
        have HO2 : Hid (OwnC w4 w.heap.size 9 1 A2 c2 k2 (strCells (ls ++ [s.extract j k]))) := Lib.hid (by rw [strCells_app]; exact ho2)
        clear ho2
        go_roundw
        case rel => exact ⟨A2, c2, k2, k + 1, k + 1, _, rfl, by go_num, by go_num, by omega, by omega, by have := hk2.out; omega, Lib.hid (by rw [hk2.out, HN1.out, List.length_append]; rfl), HO2, HC2, hb5⟩
        case measure => simp [intOf]; omega
      · have HC2 : Hid (N = ls ++ cutF s c (s.size - (k + 1)) j) := Lib.hid (by
          rw [HC.out, cutF_miss hlt (by have := HZ.out; omega)])
        go_wp2_with fail
        go_roundw
        case rel => exact ⟨A1, c1, n1, j, k + 1, ls, rfl, rfl, by go_num, by omega, by omega, by omega, HN1, HO, HC2, (by repeat (first | (with_reducible exact grow_refl _) | (with_reducible assumption) | (with_reducible refine grow_alloc ?_ _) | (with_reducible refine grow_set ?_ (by first | exact Nat.le_refl _ | (simp; done) | (simp; omega) | omega) _) | (with_reducible refine grow_drewN ?_ _) | (with_reducible refine grow_drew ?_) | (with_reducible refine grow_step ?_ (by assumption)) | (with_reducible refine grow_base ?_ (by assumption))))⟩
        case measure => simp [intOf]; omega
    · have HC2 : Hid (N = ls ++ [s.extract j s.size]) := Lib.hid (by
        have e : s.size - k = 0 := by omega
        rw [HC.out, e]; rfl)
      have HCA : Hid (CellsAt (wr.alloc (.cells #[.string (s.extract j s.size)] 9)) (some ⟨wr.heap.size, 0, none⟩) (strCells [s.extract j s.size])) := Lib.hid (CellsAt.new_ wr 9 [.string (s.extract j s.size)] (0, 0))
      have hww := hb.size
      go_wp2_with (at_builtin; refine app_cells rfl _ _ 23 9 rfl Tryz.underlying23 infoStr_ (by decide) (by decide) w.heap.size A1 c1 n1 (strCells ls) rfl (HO.out.below (grow_alloc (grow_refl _) _)) (some ⟨wr.heap.size, 0, none⟩) 1 1 (strCells [s.extract j s.size]) rfl HCA.out (by simp [strCells]) (strCells_one _) (by omega) (by omega) (by simp; omega) ?_; intro A2 c2 k2 w4 hk2 ho2 hb4)
      have hb5 : Below w.heap.size w w4 := grow_base (by repeat (first | (with_reducible exact grow_refl _) | (with_reducible assumption) | (with_reducible refine grow_alloc ?_ _) | (with_reducible refine grow_set ?_ (by first | exact Nat.le_refl _ | (simp; done) | (simp; omega) | omega) _) | (with_reducible refine grow_drewN ?_ _) | (with_reducible refine grow_drew ?_) | (with_reducible refine grow_step ?_ (by assumption)) | (with_reducible refine grow_base ?_ (by assumption)))) hb4
      have HO2 : Hid (OwnC w4 w.heap.size 9 1 A2 c2 k2 (strCells (ls ++ [s.extract j s.size]))) := Lib.hid (by rw [strCells_app]; exact ho2)
      have HK : Hid (k2 = N.length) := Lib.hid (by rw [hk2.out, HN1.out, HC2.out, List.length_append]; rfl)
      clear ho2
      go_ret
      exact ⟨A2, c2, by rw [HK.out]; rfl, by rw [HC2.out]; exact HO2.out.cells, (fun a ha => (HO2.out.at_ a ha).1), by rw [← HK.out]; exact HO2.out.cap, hb5⟩

theorem run_too {t : ByteArray} (h : 3000 < t.size) : runT t = { data := #[116, 111, 111, 32, 108, 111, 110, 103, 10] } := by unfold runT; rw [if_pos h]
theorem linesD_last : ∀ (L : List ByteArray) (M : Nat), L.length = M + 1 → linesD L = if (L.getD M tNil).size = 0 then L.take M else L
  | [], M, h => by simp at h
  | [x], M, h => by
    obtain rfl : M = 0 := by simpa using h.symm
    unfold linesD
    rfl
  | x :: y :: r, M, h => by
    obtain ⟨K, rfl⟩ : ∃ K, M = K + 1 := ⟨M - 1, by simp at h; omega⟩
    have ih := linesD_last (y :: r) K (by simpa using h)
    show x :: linesD (y :: r) = _
    rw [ih]
    have e : (x :: y :: r).getD (K + 1) tNil = (y :: r).getD K tNil := rfl
    rw [e]
    split <;> rfl

set_option maxHeartbeats 4000000 in
theorem runAnswers_walk (W : World) (t : ByteArray) (z0 : t.size ≤ reachBytes) (hsh : W.ShapedOpen Tryz.prog) (hd : RunD W) :
    Calls Tryz.prog 3 #[.string t] W fun e w' => e = .returned (.bool true) ∧ Below W.heap.size W w' := by
  have HRUN : Hid (Calls Tryz.prog 6 #[.string t] W fun e w' => e = .returned (.string (runT t)) ∧ Below W.heap.size W w') := Lib.hid (run_any t W (hd.read hsh) hd.2.1 hd.1.2)
  clear hsh hd
  by_cases hz : 3000 < t.size
  · rw [run_too hz] at HRUN
    have hz1 : (3000 : Int) < (t.size : Int) := by omega
    clear hz z0
    go_enter Tryz.func3, Tryz.ntmps3
    go_wp2_with fail
    refine HRUN.out.mono ?_
    rintro e w1 ⟨rfl, hb1⟩
    go_wp2_with fail
    go_ret
    exact ⟨rfl, hb1⟩
  · have hz1 : ¬ (3000 : Int) < (t.size : Int) := by omega
    have hz2 : t.size ≤ 3000 := by omega
    have HRT : Hid (runT t = (runF (linesT t)).2) := Lib.hid (by unfold runT; rw [if_neg hz])
    have HCU := Lib.hid (fun w => rCutP_any t 10 10 rfl w (by omega))
    have hl := cutF_len t 10
    have hlm := lines_le t
    have hll := fun x hx => line_le t x hx
    obtain ⟨M, hM⟩ : ∃ M, (cutF t 10 t.size 0).length = M + 1 := ⟨(cutF t 10 t.size 0).length - 1, by omega⟩
    have hld : linesT t = if ((cutF t 10 t.size 0).getD M tNil).size = 0 then (cutF t 10 t.size 0).take M else cutF t 10 t.size 0 := linesD_last _ M hM
    obtain ⟨R, hR⟩ : ∃ R, runT t = R := ⟨_, rfl⟩
    rw [hR] at HRUN HRT
    obtain ⟨ls, hls⟩ : ∃ ls, linesT t = ls := ⟨_, rfl⟩
    rw [hls] at HRT hlm hll hld
    obtain ⟨cs, hcs⟩ : ∃ cs, cutF t 10 t.size 0 = cs := ⟨_, rfl⟩
    rw [hcs] at HCU hl hM hld
    rw [hM] at HCU
    obtain ⟨x, hx⟩ : ∃ x, cs.getD M tNil = x := ⟨_, rfl⟩
    rw [hx] at hld
    have HCL : Hid (cs.length = M + 1) := Lib.hid hM
    have HX := Lib.hid hx
    have HLD := Lib.hid hld
    have HLL := Lib.hid (fun i (hi : i < ls.length) => Nat.le_trans (hll _ (getD_mem ls i tNil hi)) hz2)
    have HLM : Hid (ls.length ≤ 3001) := Lib.hid (by omega)
    have hM2 : (M : Int) ≤ 3000 := by omega
    have hM3 : M ≤ 3000 := by omega
    have HB : Hid (∀ n, (runF (ls.take n)).2.size ≤ 75025) := Lib.hid (fun n => by
      have h1 := runF_size (ls.take n)
      have h2 : (ls.take n).length ≤ ls.length := by rw [List.length_take]; omega
      omega)
    clear hz z0 hl hlm hll hM hld hR hls hcs hx
    go_enter Tryz.func3, Tryz.ntmps3
    go_wp2_with fail
    refine HRUN.out.mono ?_
    rintro e w1 ⟨rfl, hb1⟩
    have HW1 := Lib.hid hb1
    clear hb1
    go_wp2_with fail
    refine (HCU.out _).mono ?_
    rintro e w2 ⟨A, cp, rfl, hC, hbase, hcp, hb2⟩
    obtain ⟨b0, off, rfl, lb0, hc⟩ := cells_words hC (by rw [HCL.out]; omega)
    have HW2 := Lib.hid (grow_step HW1.out hb2)
    have HBS : Hid (W.heap.size ≤ b0) := Lib.hid (by have h1 := hbase _ rfl; have h2 := HW1.out.size; have h3 : w1.heap.size ≤ b0 := h1; omega)
    have HC := Lib.hid hc
    have cx : w2.cell? ⟨b0, off + M, none⟩ = some (.string x) := by
      have h1 := hc M (by rw [HCL.out]; omega)
      rw [HX.out] at h1
      exact h1
    obtain ⟨E, hE⟩ : ∃ E, decide (x = tNil) = E := ⟨_, rfl⟩
    have t1 : (x.toList == []) = E := by rw [← hE]; exact str_beqD x tNil
    have HE := Lib.hid hE
    have HLS : Hid ((E = true → ls = cs.take M) ∧ (E = false → ls = cs)) := Lib.hid (by
      rw [← hE, HLD.out]
      constructor
      · intro h1
        rw [if_pos (by rw [of_decide_eq_true h1]; rfl)]
      · intro h1
        rw [if_neg (fun h2 => of_decide_eq_false h1 (bytes_ext (by rw [List.eq_nil_of_length_eq_zero (show x.data.toList.length = 0 by simpa using h2)])))])
    have hcp2 : M ≤ cp := by omega
    have hcp3 : (M : Int) ≤ (cp : Int) := by omega
    clear hC hbase hb2 hc hE hcp
    go_upto_if 24 with fail
    go_cut [4] (fun z wx => z = .slice (some ⟨b0, off, none⟩) ls.length cp ∧ wx = w2)
    case first =>
      cases E with
      | true =>
        have HN : Hid (ls.length = M) := Lib.hid (by rw [HLS.out.1 rfl, List.length_take, HCL.out]; omega)
        go_wp2_with fail
        go_meet
        exact ⟨by rw [HN.out], rfl⟩
      | false =>
        have HN : Hid (ls.length = M + 1) := Lib.hid (by rw [HLS.out.2 rfl, HCL.out])
        go_wp2_with fail
        go_meet
        exact ⟨by rw [HN.out], rfl⟩
    case rest =>
      obtain ⟨rfl, q⟩ := hcut
      obtain rfl : w2 = wc := q.symm
      have HCC : Hid (∀ j, j < ls.length → w2.cell? ⟨b0, off + j, none⟩ = some (.string (ls.getD j tNil))) := Lib.hid (fun j hj => by
        cases E with
        | true =>
          have e1 := HLS.out.1 rfl
          have h2 : j < M := by rw [e1, List.length_take] at hj; omega
          rw [HC.out j (by rw [HCL.out]; omega), e1, List.getD_eq_getElem?_getD, List.getD_eq_getElem?_getD, List.getElem?_take_of_lt h2]
        | false =>
          rw [HLS.out.2 rfl] at hj ⊢
          exact HC.out j hj)
      obtain ⟨N, hN⟩ : ∃ N, ls.length = N := ⟨_, rfl⟩
      rw [hN] at HCC HLL HLM
      simp only [hN]
      have HNN := Lib.hid hN
      have hN2 : N ≤ 3001 := HLM.out
      clear t1 cx hN HLS HC
      go_wp2_with fail
      have hx0 := RD3.new w2 w2.heap.size
      obtain ⟨g, hg⟩ : ∃ g, w2.heap.size = g := ⟨_, rfl⟩
      have hw3 : Below W.heap.size W (w2.alloc (.cells #[.slice none 0 0, .int .i64 0, .int .i64 0, .int .i64 0, .int .i64 0, .int .i64 0, .int .i64 0, .int .i64 0, .int .i64 0] 32)) := grow_alloc HW2.out _
      have hb3 : Below w2.heap.size w2 (w2.alloc (.cells #[.slice none 0 0, .int .i64 0, .int .i64 0, .int .i64 0, .int .i64 0, .int .i64 0, .int .i64 0, .int .i64 0, .int .i64 0] 32)) := grow_alloc (grow_refl _) _
      obtain ⟨w3, hw3e⟩ : ∃ w3, w2.alloc (.cells #[.slice none 0 0, .int .i64 0, .int .i64 0, .int .i64 0, .int .i64 0, .int .i64 0, .int .i64 0, .int .i64 0, .int .i64 0] 32) = w3 := ⟨_, rfl⟩
      have hz3 : w3.heap.size = w2.heap.size + 1 := by rw [← hw3e]; simp
      rw [hw3e] at hx0 hw3 hb3 ⊢
      rw [hg] at hx0 hz3 lb0
      simp only [hg]
      have HCC3 : Hid (∀ j, j < N → w3.cell? ⟨b0, off + j, none⟩ = some (.string (ls.getD j tNil))) := Lib.hid (fun j hj => (hb3.cell (p := ⟨b0, off + j, none⟩) (by rw [hg]; exact lb0)).trans (HCC.out j hj))
      have HG : Hid (b0 < g ∧ W.heap.size ≤ g) := Lib.hid ⟨lb0, by rw [← hg]; exact HW2.out.size⟩
      have hr0 : RDA w3 g g dsk0 := ⟨⟨0, 0, 0, 0, 0, 0, 0, 0, rfl, hx0⟩, dsk0_ok⟩
      have HR0 := Lib.hid hr0
      have HW3 := Lib.hid hw3
      have HZ3 := Lib.hid hz3
      clear hw3e hg hb3 hx0 hw3 hr0 hz3 HCC lb0
      go_loopw [6, 7, 8] (fun z i _ wr => ∃ (n : Nat) (lb : Nat), z = .string (runF (ls.take n)).2 ∧ i = .int .i64 n ∧ n ≤ N ∧ Hid (RDA wr g lb (runF (ls.take n)).1) ∧ Hid (lb < wr.heap.size ∧ b0 < lb ∧ W.heap.size ≤ lb) ∧ Hid (∀ j, j < N → wr.cell? ⟨b0, off + j, none⟩ = some (.string (ls.getD j tNil))) ∧ Hid (Below W.heap.size W wr)) (fun _ i _ _ => N - (intOf i).toNat)
      case atStart =>
        refine ⟨0, g, rfl, rfl, Nat.zero_le _, HR0, Lib.hid ⟨?_, HG.out.1, HG.out.2⟩, HCC3, HW3⟩
        have h1 := HZ3.out
        omega
      case round =>
        obtain ⟨n, lb, rfl, rfl, hn, HRD, HLB, HCJ, HWR⟩ := hrel
        by_cases hlt : n < N
        · have g1 : (n : Int) < (N : Int) := by omega
          obtain ⟨s, hs⟩ : ∃ s, ls.getD n tNil = s := ⟨_, rfl⟩
          have cs_ : wr.cell? ⟨b0, off + n, none⟩ = some (.string s) := by
            have h1 := HCJ.out n hlt
            rw [hs] at h1
            exact h1
          have hsz : s.size ≤ 3000 := by rw [← hs]; exact HLL.out n hlt
          have htk : ls.take (n + 1) = ls.take n ++ [s] := by
            have h1 : n < ls.length := by rw [HNN.out]; exact hlt
            rw [List.take_succ_eq_append_getElem h1, ← hs, List.getD_eq_getElem?_getD, List.getElem?_eq_getElem h1]; rfl
          have hsn : runF (ls.take (n + 1)) = stepR (runF (ls.take n)) s := by rw [htk]; exact runF_snoc _ _
          have HQ := Lib.hid (rLine_any wr g lb (runF (ls.take n)).1 s HRD.out HLB.out.1 hsz)
          have hb1 := HB.out n
          have hvs := lineR_size (runF_ok (ls.take n)) (wordsB s)
          unfold stepR at hsn
          obtain ⟨p, hp⟩ : ∃ p, runF (ls.take n) = p := ⟨_, rfl⟩
          rw [hp] at hsn HQ hb1 hvs HRD ⊢
          obtain ⟨d, o⟩ := p
          simp only at hsn HQ hb1 hvs HRD
          obtain ⟨v, hv⟩ : ∃ v, lineR d (wordsB s) = v := ⟨_, rfl⟩
          rw [hv] at hsn HQ hvs
          obtain ⟨v, d2⟩ := v
          simp only at hsn hvs
          have HSN := Lib.hid hsn
          have f1 : ∀ w, (Op.stringOp .add o v).run Tryz.prog w = .ok (.string (o ++ v)) w := fun w => run_string_add_sum _ _ _ (by omega)
          have f2 : ∀ w, (Op.stringOp .add (o ++ v) { data := #[10] }).run Tryz.prog w = .ok (.string (o ++ v ++ tNl)) w := fun w => run_string_add_sum _ _ _ (by
            rw [ByteArray.size_append]
            have h4 : ({ data := #[10] } : ByteArray).size = 1 := rfl
            omega)
          have lbr : b0 < wr.heap.size := World.block_lt_of_cell? wr ⟨b0, off + n, none⟩ cs_
          clear hs hsz htk hsn hb1 hvs hp hv
          show Code.wp _ _ _ _ _
          go_wp2_with fail
          refine HQ.out.mono ?_
          rintro e w5 ⟨rfl, hrd5, hk5⟩
          have HRD5 := Lib.hid hrd5
          have HK5 := Lib.hid hk5
          clear hrd5 hk5
          go_wp2_with fail
          go_roundw
          case rel =>
            obtain ⟨lb', hr5, hl5⟩ := HRD5.out
            have hl := HLB.out
            have hg := HG.out
            have hz5 := HK5.out.size
            have hlr := HRD.out.lt
            have hlb' : lb' < w5.heap.size ∧ b0 < lb' ∧ W.heap.size ≤ lb' := by
              rcases hl5 with rfl | ⟨h1, h2⟩
              · omega
              · have h3 := HWR.out.size
                omega
            refine ⟨n + 1, lb', ?_, by go_num, by omega, Lib.hid ?_, Lib.hid hlb', Lib.hid (fun j hj => ?_), Lib.hid (HWR.out.trans (HK5.out.below HWR.out.size (fun k e => by omega)))⟩
            · rw [HSN.out]
              show Value.string (o ++ v ++ tNl) = Value.string (o ++ (v ++ tNl))
              exact congrArg Value.string (bytes_ext (by simp [List.append_assoc]))
            · rw [HSN.out]; exact hr5
            · exact (World.cell?_of_block (HK5.out.block b0 lbr (by omega))).trans (HCJ.out j hj)
          case measure => simp [intOf]; omega
        · have g1 : ¬ (n : Int) < (N : Int) := by omega
          have hnn : n = N := by omega
          have HRE : Hid ((runF (ls.take n)).2 = R) := Lib.hid (by rw [HRT.out, List.take_of_length_le (by rw [HNN.out]; omega)])
          rw [HRE.out]
          clear hnn
          go_wp2_with fail
          go_ret
          exact ⟨rfl, HWR.out⟩

set_option maxRecDepth 100000 in
theorem runAnswers_walks (H : Type) (enc : TypeId × Value → H) : WalksD enc Tryz.prog RunD 3 Tryz.f3 := by
  intro W base args ds p hval hA hlt hsz hsh hdoor
  have hsz0 := hsz
  rw [Tryz.params3] at hA hval
  obtain ⟨v0, vs0, d0, ds0, p0, q0, hargs, rfl, rfl, h0, r0⟩ := trodAll_cons hA
  obtain ⟨rfl, rfl, rfl⟩ := trodAll_nil r0
  obtain rfl : args = #[v0] := by cases args; simp_all
  obtain ⟨a0, rfl, w0⟩ := op_str (hval 0 9 v0 rfl rfl) h0 (w_each hsz 0 9 _ (by rw [Tryz.params3]; rfl) rfl)
  exact runAnswers_walk W a0 w0 hsh hdoor

set_option maxRecDepth 100000 in
theorem runAnswers_lifted (os : Os) (started : os.Started) (H : Type) (enc : TypeId × Value → H) :
    ReturnsInHanded {} Tryz.checked os 3 .any (fun w args => (Rows.runAnswersSpec.pre enc Tryz.checked.prog Tryz.f3 [] false w args ∧ laidMetH Tryz.checked.prog LaidW w) ∧ sizedMet enc Tryz.checked.prog Tryz.f3 (OpenSpec.ofChange Rows.runAnswersSpec) false w args) (Rows.runAnswersSpec.post enc Tryz.checked.prog Tryz.f3 false true false false) :=
  returns_of_walkD (C := Tryz.checked) (s := Rows.runAnswersSpec) (L := LaidW) (D := RunD) own started (by kernel_rfl) Tryz.func3
    (ChangeSpec.witness_at (enc := enc) (C := Tryz.checked) (os := os) (X := fun w _ => laidMetH Tryz.prog LaidW w) false (laidWorldW os) #[.string ⟨#[]⟩] 8 rfl (by kernel_rfl) (by kernel_rfl) (by kernel_rfl) (by kernel_rfl) (by kernel_rfl) (laidWorldW_met os _))
    (fun W h => tabW_of_laid h) laidOut (by kernel_rfl) rfl Tryz.underlying4 rfl (fun ds h => by match ds, h with | [_], _ => rfl) (runAnswers_walks H enc)

theorem runAnswers_bare : Rows.RunAnswersSaid :=
  OpenClaim.holds_of_wide 3 Tryz.f3 rfl rfl rfl rfl rfl rfl rfl ⟨rfl, rfl, rfl, rfl, rfl⟩ rfl rfl rfl rfl rfl (by kernel_rfl) Tryz.func3 (by kernel_rfl)
    (of_decide_eq_true (by kernel_rfl)) (by unfold Func.isWrapper; rw [if_neg (of_decide_eq_false (by kernel_rfl))]; exact ⟨rfl, rfl⟩)
    (fun os started H enc _ => runAnswers_lifted os started H enc)

theorem runAnswers_holds : Rows.RunAnswersCardSaid :=
  Claim7.holds_tied_plain_at .later [] [.data, .data, .data, .data, .handle, .sentinel, .sentinel, .wider, .pinned] true Rows.runAnswersCard.stood.harness true
    runAnswers_bare (fun _ h => by cases h) (by kernel_rfl) (fun _ h => by cases h) runAnswers_row_tie rfl ⟨rfl, rfl⟩ (by kernel_rfl) rfl
    (fun f fn hf hfn => by
      obtain rfl : f = 3 := Option.some.inj ((show Tryz.prog.funcNamed "bootstair/stairlaw3.RunAnswers" = some 3 by kernel_rfl).symm.trans hf) |>.symm
      obtain rfl : fn = Tryz.f3 := (Option.some.inj (Tryz.func3.symm.trans hfn)).symm
      exact ⟨by kernel_rfl, fun j t ht => by
        have hm : t ∈ Tryz.f3.params.toList := by simpa using Array.mem_of_getElem? ht
        have hall : (Tryz.f3.params.toList.all fun u => !Tryz.prog.wantsStandIn u) = true := by kernel_rfl
        exact (show Tryz.prog.wantsStandIn t = false by simpa using List.all_eq_true.1 hall t hm)⟩)
    (by kernel_rfl)

end Go.Proofs.YtegiffdlfpdbkaaGreatDoor
