/- The reference's desk; the names of faults. -/
import Derived.Test.YtegiffdlfpdbkaaGreatDoorRows
import Derived.Test.YtegiffdlfpdbkaaGreatDoorNum
import Derived.Test.YtegiffdlfpdbkaaGreatDoorBase
import Derived.Test.YtegiffdlfpdbkaaGreatDoorApp
import Derived.Test.YtegiffdlfpdbkaaGreatDoorFoot
import Derived.Test.YtegiffdlfpdbkaaGreatDoorImg
import Derived.Test.YtegiffdlfpdbkaaGreatDoorCntP
import Derived.Test.YtegiffdlfpdbkaaGreatDoorNumP
import Derived.Test.YtegiffdlfpdbkaaGreatDoorParse
import Derived.Test.YtegiffdlfpdbkaaGreatDoorRefA
import Derived.Test.YtegiffdlfpdbkaaGreatDoorRefB
import Derived.Test.YtegiffdlfpdbkaaGreatDoorRefI
import Derived.Test.YtegiffdlfpdbkaaGreatDoorRefK
import Derived.Test.YtegiffdlfpdbkaaGreatDoorRefL
import Derived.Test.YtegiffdlfpdbkaaGreatDoorRefCut
import Derived.Test.YtegiffdlfpdbkaaGreatDoorRefNum
import Derived.Test.YtegiffdlfpdbkaaGreatDoorCutW
import Derived.Test.YtegiffdlfpdbkaaGreatDoorRCntD
import Derived.Test.YtegiffdlfpdbkaaGreatDoorRunP
import Derived.Test.YtegiffdlfpdbkaaGreatDoorRunL
import Derived.Test.YtegiffdlfpdbkaaGreatDoorRunS
import Derived.Test.YtegiffdlfpdbkaaGreatDoorRunT
import Derived.Test.YtegiffdlfpdbkaaGreatDoorRun1
import Derived.Test.YtegiffdlfpdbkaaGreatDoorRun3
import Derived.Test.YtegiffdlfpdbkaaGreatDoorRun4
import Derived.Test.YtegiffdlfpdbkaaGreatDoorRun5
import Derived.WalkKit
import Derived.WalkSpells
import Derived.WalkLawsBesides
import Derived.Lib.Hide
import Derived.BigQuiet
import Derived.Deep.QuietTactic
import Derived.Deep.RegionHeld3
import Derived.Deep.DeepCutAuto
namespace Go.Proofs.YtegiffdlfpdbkaaGreatDoor
open Go.RowKit
set_option maxRecDepth 100000
set_option linter.unusedVariables false
set_option linter.unusedSimpArgs false

/-- The reference's desk at g, its list in the block lb. -/
def RDA (w : World) (g lb : Nat) (d : Dsk) : Prop := (∃ x0 x1 x2 x3 x4 x5 x6 x7 : Int, d.bank = [x0, x1, x2, x3, x4, x5, x6, x7] ∧ RD3 w g lb (.int .i64 x0) (.int .i64 x1) (.int .i64 x2) (.int .i64 x3) (.int .i64 x4) (.int .i64 x5) (.int .i64 x6) (.int .i64 x7) d.cnt) ∧ DskOK d
theorem RDA.but {S : Nat → Prop} {w w' : World} {g lb : Nat} {d : Dsk} (h : RDA w g lb d) (k : But S w w') (h0 : ¬ S g) (h1 : ¬ S lb) : RDA w' g lb d := by
  obtain ⟨⟨x0, x1, x2, x3, x4, x5, x6, x7, e, a⟩, o⟩ := h
  exact ⟨⟨x0, x1, x2, x3, x4, x5, x6, x7, e, a.but k h0 h1⟩, o⟩
theorem RDA.below {w w' : World} {g lb : Nat} {d : Dsk} (h : RDA w g lb d) (hb : Below w.heap.size w w') : RDA w' g lb d := h.but (below_but hb (fun _ => False)) (fun h => h) (fun h => h)
theorem RDA.lt {w : World} {g lb : Nat} {d : Dsk} (h : RDA w g lb d) : g < w.heap.size := by
  obtain ⟨⟨x0, x1, x2, x3, x4, x5, x6, x7, e, A, c, a, _⟩, o⟩ := h
  exact a.lt
/-- What a line of a reference's desk leaves. -/
def LQ (w : World) (g lb : Nat) (out : ByteArray × Dsk) (e : Ending) (w' : World) : Prop :=
  e = .returned (.string out.1) ∧ (∃ lb', RDA w' g lb' out.2 ∧ (lb' = lb ∨ (w.heap.size ≤ lb' ∧ lb' < w'.heap.size))) ∧ But (fun k => k = g ∨ k = lb) w w'
theorem lq_same {w w' : World} {g lb : Nat} {d : Dsk} {s : ByteArray} {r : ByteArray × Dsk} (hr : r = (s, d)) (h : RDA w g lb d) (hb : Below w.heap.size w w') : LQ w g lb r (.returned (.string s)) w' := by
  subst hr
  exact ⟨rfl, ⟨lb, h.below hb, Or.inl rfl⟩, below_but hb _⟩
set_option maxHeartbeats 8000000 in
theorem name_any (k : Int) (h0 : 0 ≤ k) (h1 : k ≤ 9) (w : World) : Calls Tryz.prog 18 #[.int .i64 k] w fun e w' => e = .returned (.string (errN k)) ∧ Below w.heap.size w w' := by
  have h : k = 0 ∨ k = 1 ∨ k = 2 ∨ k = 3 ∨ k = 4 ∨ k = 5 ∨ k = 6 ∨ k = 7 ∨ k = 8 ∨ k = 9 := by omega
  clear h0 h1
  rcases h with rfl | rfl | rfl | rfl | rfl | rfl | rfl | rfl | rfl | rfl
  all_goals
    go_enter Tryz.func18, Tryz.ntmps18
    go_wp2_with fail
    go_ret
    exact ⟨rfl, (by repeat (first | (with_reducible exact grow_refl _) | (with_reducible assumption) | (with_reducible refine grow_alloc ?_ _) | (with_reducible refine grow_set ?_ (by first | exact Nat.le_refl _ | (simp; done) | (simp; omega) | omega) _) | (with_reducible refine grow_drewN ?_ _) | (with_reducible refine grow_drew ?_) | (with_reducible refine grow_step ?_ (by assumption)) | (with_reducible refine grow_base ?_ (by assumption))))⟩
theorem yesR_any (b : Bool) (k : Int) (h0 : 0 ≤ k) (h1 : k ≤ 9) (w : World) : Calls Tryz.prog 24 #[.bool b, .int .i64 k] w fun e w' => e = .returned (.string (sayB b k)) ∧ Below w.heap.size w w' := by
  by_cases hk : k = 0
  · subst hk
    cases b
    · go_enter Tryz.func24, Tryz.ntmps24
      go_wp2_with fail
      go_ret
      exact ⟨rfl, (by repeat (first | (with_reducible exact grow_refl _) | (with_reducible assumption) | (with_reducible refine grow_alloc ?_ _) | (with_reducible refine grow_set ?_ (by first | exact Nat.le_refl _ | (simp; done) | (simp; omega) | omega) _) | (with_reducible refine grow_drewN ?_ _) | (with_reducible refine grow_drew ?_) | (with_reducible refine grow_step ?_ (by assumption)) | (with_reducible refine grow_base ?_ (by assumption))))⟩
    · go_enter Tryz.func24, Tryz.ntmps24
      go_wp2_with fail
      go_ret
      exact ⟨rfl, (by repeat (first | (with_reducible exact grow_refl _) | (with_reducible assumption) | (with_reducible refine grow_alloc ?_ _) | (with_reducible refine grow_set ?_ (by first | exact Nat.le_refl _ | (simp; done) | (simp; omega) | omega) _) | (with_reducible refine grow_drewN ?_ _) | (with_reducible refine grow_drew ?_) | (with_reducible refine grow_step ?_ (by assumption)) | (with_reducible refine grow_base ?_ (by assumption))))⟩
  · have HN := Lib.hid (fun w => name_any k h0 h1 w)
    have t : (k != 0) = true := by simpa using hk
    have HK := Lib.hid hk
    clear h0 h1
    go_enter Tryz.func24, Tryz.ntmps24
    go_wp2_with fail
    refine (HN.out _).mono ?_
    rintro e w1 ⟨rfl, hb⟩
    go_wp2_with fail
    go_ret
    exact ⟨by unfold sayB; rw [if_neg HK.out]; rfl, hb⟩
theorem cells_words {w : World} {A : Option Addr} {ws : List ByteArray} (h : CellsAt w A (strCells ws)) (h0 : 0 < ws.length) : ∃ b off, A = some ⟨b, off, none⟩ ∧ b < w.heap.size ∧ ∀ j, j < ws.length → w.cell? ⟨b, off + j, none⟩ = some (.string (ws.getD j tNil)) := by
  have at_ : ∀ j, j < ws.length → (strCells ws)[j]? = some (.string (ws.getD j tNil)) := fun j hj => by
    unfold strCells
    rw [List.getElem?_map, List.getElem?_eq_getElem hj, List.getD_eq_getElem?_getD, List.getElem?_eq_getElem hj]; rfl
  obtain ⟨b, off, rfl, lt, hc⟩ := h 0 _ (at_ 0 h0)
  refine ⟨b, off, rfl, lt, fun j hj => ?_⟩
  obtain ⟨b1, o1, e, _, hc1⟩ := h j _ (at_ j hj)
  injection e with e
  injection e with e1 e2 _
  subst e1 e2
  exact hc1
set_option maxHeartbeats 2000000 in
theorem rCutO_any (s : ByteArray) (c : UInt8) (cz : Int) (hcz : cz = (c.toNat : Int)) (w : World) (hs : s.size ≤ 1048576) :
    Calls Tryz.prog 7 #[.string s, .int .u8 cz] w fun e w' => ∃ (A : Option Addr) (cp : Nat), e = .returned (.slice A (cutF s c s.size 0).length cp) ∧ CellsAt w' A (strCells (cutF s c s.size 0)) ∧ (∀ a, A = some a → w.heap.size ≤ a.block) ∧ Below w.heap.size w w' := by
  obtain ⟨N, hN⟩ : ∃ N, cutF s c s.size 0 = N := ⟨_, rfl⟩
  rw [hN]
  have HN := Lib.hid hN
  have HZ := Lib.hid hcz
  clear hN hcz
  go_enter Tryz.func7, Tryz.ntmps7
  go_wp2_with fail
  go_loopw [5, 6, 7] (fun out f i wr => ∃ (A1 : Option Addr) (c1 n1 j k : Nat) (ls : List ByteArray), out = .slice A1 n1 c1 ∧ f = .int .i64 j ∧ i = .int .i64 k ∧ j ≤ k ∧ k ≤ s.size ∧ n1 ≤ k ∧ Hid (n1 = ls.length) ∧ Hid (OwnC wr w.heap.size 9 1 A1 c1 n1 (strCells ls)) ∧ Hid (N = ls ++ cutF s c (s.size - k) j) ∧ Below w.heap.size w wr) (fun _ _ i _ => s.size - (intOf i).toNat)
  case atStart => exact ⟨none, 0, 0, 0, 0, [], rfl, rfl, rfl, Nat.le_refl _, Nat.zero_le _, Nat.le_refl _, Lib.hid rfl, Lib.hid (OwnC.start _ _ _ _), Lib.hid (by rw [← HN.out]; rfl), (by repeat (first | (with_reducible exact grow_refl _) | (with_reducible assumption) | (with_reducible refine grow_alloc ?_ _) | (with_reducible refine grow_set ?_ (by first | exact Nat.le_refl _ | (simp; done) | (simp; omega) | omega) _) | (with_reducible refine grow_drewN ?_ _) | (with_reducible refine grow_drew ?_) | (with_reducible refine grow_step ?_ (by assumption)) | (with_reducible refine grow_base ?_ (by assumption))))⟩
  case round =>
    obtain ⟨A1, c1, n1, j, k, ls, rfl, rfl, rfl, hjk, hk, hn1, HN1, HO, HC, hb⟩ := hrel
    by_cases hlt : k < s.size
    · by_cases h1 : ((s[k]).toNat : Int) = cz
      · have HC2 : Hid (N = (ls ++ [s.extract j k]) ++ cutF s c (s.size - (k + 1)) (k + 1)) := Lib.hid (by
          rw [HC.out, cutF_hit hlt (by have := HZ.out; omega), List.append_assoc]; rfl)
        have HCA : Hid (CellsAt (wr.alloc (.cells #[.string (s.extract j k)] 9)) (some ⟨wr.heap.size, 0, none⟩) (strCells [s.extract j k])) := Lib.hid (CellsAt.new_ wr 9 [.string (s.extract j k)] (0, 0))
        have hww := hb.size
        go_wp2_with (at_builtin; refine app_cells rfl _ _ 23 9 rfl Tryz.underlying23 infoStr_ (by decide) (by decide) w.heap.size A1 c1 n1 (strCells ls) rfl (HO.out.below (grow_alloc (grow_refl _) _)) (some ⟨wr.heap.size, 0, none⟩) 1 1 (strCells [s.extract j k]) rfl HCA.out (by simp [strCells]) (strCells_one _) (by omega) (by omega) (by simp; omega) ?_; intro A2 c2 k2 w4 hk2 ho2 hb4)
        have hb5 : Below w.heap.size w w4 := grow_base (by repeat (first | (with_reducible exact grow_refl _) | (with_reducible assumption) | (with_reducible refine grow_alloc ?_ _) | (with_reducible refine grow_set ?_ (by first | exact Nat.le_refl _ | (simp; done) | (simp; omega) | omega) _) | (with_reducible refine grow_drewN ?_ _) | (with_reducible refine grow_drew ?_) | (with_reducible refine grow_step ?_ (by assumption)) | (with_reducible refine grow_base ?_ (by assumption)))) hb4
        have HO2 : Hid (OwnC w4 w.heap.size 9 1 A2 c2 k2 (strCells (ls ++ [s.extract j k]))) := Lib.hid (by rw [strCells_app]; exact ho2)
        clear ho2
        go_roundw
        case rel => exact ⟨A2, c2, k2, k + 1, k + 1, _, rfl, by go_num, by go_num, by omega, by omega, by have := hk2.out; omega, Lib.hid (by rw [hk2.out, HN1.out, List.length_append]; rfl), HO2, HC2, hb5⟩
        case measure => simp [intOf]; omega
      · have HC2 : Hid (N = ls ++ cutF s c (s.size - (k + 1)) j) := Lib.hid (by
          rw [HC.out, cutF_miss hlt (by have := HZ.out; omega)])
        go_wp2_with fail
        go_roundw
        case rel => exact ⟨A1, c1, n1, j, k + 1, ls, rfl, rfl, by go_num, by omega, by omega, by omega, HN1, HO, HC2, (by repeat (first | (with_reducible exact grow_refl _) | (with_reducible assumption) | (with_reducible refine grow_alloc ?_ _) | (with_reducible refine grow_set ?_ (by first | exact Nat.le_refl _ | (simp; done) | (simp; omega) | omega) _) | (with_reducible refine grow_drewN ?_ _) | (with_reducible refine grow_drew ?_) | (with_reducible refine grow_step ?_ (by assumption)) | (with_reducible refine grow_base ?_ (by assumption))))⟩
        case measure => simp [intOf]; omega
    · have HC2 : Hid (N = ls ++ [s.extract j s.size]) := Lib.hid (by
        have e : s.size - k = 0 := by omega
        rw [HC.out, e]; rfl)
      have HCA : Hid (CellsAt (wr.alloc (.cells #[.string (s.extract j s.size)] 9)) (some ⟨wr.heap.size, 0, none⟩) (strCells [s.extract j s.size])) := Lib.hid (CellsAt.new_ wr 9 [.string (s.extract j s.size)] (0, 0))
      have hww := hb.size
      go_wp2_with (at_builtin; refine app_cells rfl _ _ 23 9 rfl Tryz.underlying23 infoStr_ (by decide) (by decide) w.heap.size A1 c1 n1 (strCells ls) rfl (HO.out.below (grow_alloc (grow_refl _) _)) (some ⟨wr.heap.size, 0, none⟩) 1 1 (strCells [s.extract j s.size]) rfl HCA.out (by simp [strCells]) (strCells_one _) (by omega) (by omega) (by simp; omega) ?_; intro A2 c2 k2 w4 hk2 ho2 hb4)
      have hb5 : Below w.heap.size w w4 := grow_base (by repeat (first | (with_reducible exact grow_refl _) | (with_reducible assumption) | (with_reducible refine grow_alloc ?_ _) | (with_reducible refine grow_set ?_ (by first | exact Nat.le_refl _ | (simp; done) | (simp; omega) | omega) _) | (with_reducible refine grow_drewN ?_ _) | (with_reducible refine grow_drew ?_) | (with_reducible refine grow_step ?_ (by assumption)) | (with_reducible refine grow_base ?_ (by assumption)))) hb4
      have HO2 : Hid (OwnC w4 w.heap.size 9 1 A2 c2 k2 (strCells (ls ++ [s.extract j s.size]))) := Lib.hid (by rw [strCells_app]; exact ho2)
      have HK : Hid (k2 = N.length) := Lib.hid (by rw [hk2.out, HN1.out, HC2.out, List.length_append]; rfl)
      clear ho2
      go_ret
      exact ⟨A2, c2, by rw [HK.out]; rfl, by rw [HC2.out]; exact HO2.out.cells, (fun a ha => (HO2.out.at_ a ha).1), hb5⟩
theorem rCutW (s : ByteArray) (w : World) (hs : s.size ≤ 1048576) :
    Calls Tryz.prog 7 #[.string s, .int .u8 32] w fun e w' => ∃ (A : Option Addr) (cp : Nat), e = .returned (.slice A (wordsB s).length cp) ∧ CellsAt w' A (strCells (wordsB s)) ∧ (∀ a, A = some a → w.heap.size ≤ a.block) ∧ Below w.heap.size w w' := by
  have h := rCutO_any s 32 32 rfl w hs
  rw [cut_words] at h
  exact h
theorem bank_cell (a : Option Addr) (n c : Nat) (y0 y1 y2 y3 y4 y5 y6 y7 : Int) (k : Nat) (hk : k < 8) :
    (#[.slice a n c, .int .i64 y0, .int .i64 y1, .int .i64 y2, .int .i64 y3, .int .i64 y4, .int .i64 y5, .int .i64 y6, .int .i64 y7] : Array Value)[1 + k]? = some (.int .i64 ([y0, y1, y2, y3, y4, y5, y6, y7].getD k 0)) := by
  match k, hk with
  | 0, _ => rfl
  | 1, _ => rfl
  | 2, _ => rfl
  | 3, _ => rfl
  | 4, _ => rfl
  | 5, _ => rfl
  | 6, _ => rfl
  | 7, _ => rfl
theorem RDA.set {w : World} {g lb : Nat} {d : Dsk} (h : RDA w g lb d) (k : Nat) (hk : k < 8) (v : Int) (hd : DskOK { d with bank := d.bank.set k v }) : RDA (w.setCell ⟨g, 1 + k, none⟩ (.int .i64 v)) g lb { d with bank := d.bank.set k v } := by
  obtain ⟨⟨x0, x1, x2, x3, x4, x5, x6, x7, e, A, c, a1, a2, a3⟩, o⟩ := h
  have b1 := a1.set_ (1 + k) (.int .i64 v)
  have b2 := OwnC.farP a2 (p := ⟨g, 1 + k, none⟩) (by show g < g + 1; omega) (.int .i64 v)
  refine ⟨?_, hd⟩
  match k, hk, b1, b2 with
  | 0, _, b1, b2 => exact ⟨v, x1, x2, x3, x4, x5, x6, x7, by rw [e]; rfl, A, c, b1, b2, a3⟩
  | 1, _, b1, b2 => exact ⟨x0, v, x2, x3, x4, x5, x6, x7, by rw [e]; rfl, A, c, b1, b2, a3⟩
  | 2, _, b1, b2 => exact ⟨x0, x1, v, x3, x4, x5, x6, x7, by rw [e]; rfl, A, c, b1, b2, a3⟩
  | 3, _, b1, b2 => exact ⟨x0, x1, x2, v, x4, x5, x6, x7, by rw [e]; rfl, A, c, b1, b2, a3⟩
  | 4, _, b1, b2 => exact ⟨x0, x1, x2, x3, v, x5, x6, x7, by rw [e]; rfl, A, c, b1, b2, a3⟩
  | 5, _, b1, b2 => exact ⟨x0, x1, x2, x3, x4, v, x6, x7, by rw [e]; rfl, A, c, b1, b2, a3⟩
  | 6, _, b1, b2 => exact ⟨x0, x1, x2, x3, x4, x5, v, x7, by rw [e]; rfl, A, c, b1, b2, a3⟩
  | 7, _, b1, b2 => exact ⟨x0, x1, x2, x3, x4, x5, x6, v, by rw [e]; rfl, A, c, b1, b2, a3⟩
theorem RDA.cell {w : World} {g lb : Nat} {d : Dsk} (h : RDA w g lb d) (k : Nat) (hk : k < 8) : w.cell? ⟨g, 1 + k, none⟩ = some (.int .i64 (d.bank.getD k 0)) ∧ w.frozen? ⟨g, 1 + k, none⟩ = false := by
  obtain ⟨⟨x0, x1, x2, x3, x4, x5, x6, x7, e, A, c, a1, a2, a3⟩, o⟩ := h
  exact ⟨by rw [a1.cell, e]; exact bank_cell _ _ _ _ _ _ _ _ _ _ _ k hk, a1.frozen _⟩

end Go.Proofs.YtegiffdlfpdbkaaGreatDoor
