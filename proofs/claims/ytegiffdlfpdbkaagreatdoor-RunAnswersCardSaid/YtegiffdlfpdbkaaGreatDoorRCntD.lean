/- The reference's Counts as the first cell of a Desk: asked, and raised, with the footprint. -/
import Derived.Test.YtegiffdlfpdbkaaGreatDoorRows
import Derived.Test.YtegiffdlfpdbkaaGreatDoorNum
import Derived.Test.YtegiffdlfpdbkaaGreatDoorBase
import Derived.Test.YtegiffdlfpdbkaaGreatDoorApp
import Derived.Test.YtegiffdlfpdbkaaGreatDoorFoot
import Derived.Test.YtegiffdlfpdbkaaGreatDoorImg
import Derived.Test.YtegiffdlfpdbkaaGreatDoorCntP
import Derived.Test.YtegiffdlfpdbkaaGreatDoorRefI
import Derived.Test.YtegiffdlfpdbkaaGreatDoorCntR
import Derived.WalkKit
import Derived.WalkSpells
import Derived.WalkLawsBesides
import Derived.Lib.Hide
import Derived.Deep.DeepCutAuto
namespace Go.Proofs.YtegiffdlfpdbkaaGreatDoor
open Go.RowKit
set_option maxRecDepth 100000
set_option linter.unusedSimpArgs false
set_option linter.unusedVariables false

variable {v0 v1 v2 v3 v4 v5 v6 v7 : Value}
/-- The counts of a reference's desk at g. -/
def RDk (w : World) (g : Nat) (v0 v1 v2 v3 v4 v5 v6 v7 : Value) (ls : List Cnt) : Prop :=
  ∃ (A : Option Addr) (c : Nat), Box w g 32 #[.slice A ls.length c, v0, v1, v2, v3, v4, v5, v6, v7] ∧ OwnC w (g + 1) 88 2 A c ls.length (cntCells ls)

set_option maxHeartbeats 2000000 in
theorem qOf_any (g : Nat) (ls : List Cnt) (s : ByteArray) (w : World) (h : RDk w g v0 v1 v2 v3 v4 v5 v6 v7 ls) (hl : ls.length ≤ 12) :
    Calls Tryz.prog 40 #[.pointer (some ⟨g, 0, none⟩), .string s] w fun e w' => e = .returned (.int .i64 (ofL ls s.data.toList)) ∧ w = w' := by
  obtain ⟨A, c, h1, h2⟩ := h
  have HO := Lib.hid h2
  have cB := h1.cell
  have lB := h1.lt
  clear h1 h2
  go_enter Tryz.func40, Tryz.ntmps40
  go_wp2_with fail
  go_loop [5] (fun i => ∃ k : Nat, k ≤ ls.length ∧ i = .int .i64 k ∧ Hid (ofL ls s.data.toList = ofL (ls.drop k) s.data.toList)) (fun i => ls.length - (intOf i).toNat)
  case atStart => exact ⟨0, Nat.zero_le _, rfl, Lib.hid rfl⟩
  case round =>
    obtain ⟨k, hk, rfl, HF⟩ := hrel
    by_cases hlt : k < ls.length
    · have g0 : (k : Int) < (ls.length : Int) := by omega
      obtain ⟨a1, a2⟩ := cntCells_at ls k hlt
      obtain ⟨b1, o1, rfl, lb1, c1⟩ := HO.out.cells _ _ a1
      obtain ⟨b2, o2, e2, lb2, c2⟩ := HO.out.cells _ _ a2
      injection e2 with e2
      injection e2 with qa qb
      subst qa
      subst qb
      have ez := HO.out.zero_off _ rfl
      injection ez with _ ez
      subst ez
      have hnx := ofL_next (ls := ls) (t := s.data.toList) hlt
      have hht := ofL_hit (ls := ls) (t := s.data.toList) hlt
      obtain ⟨⟨nm, x⟩, hz⟩ : ∃ z, ls.getD k noCnt = z := ⟨_, rfl⟩
      rw [hz] at c1 c2 hnx hht
      simp only [Nat.zero_add] at c1 c2 hnx hht
      clear hz a1 a2
      by_cases hq : nm.data.toList = s.data.toList
      · have t : (nm.toList == s.toList) = true := by rw [ByteArray.toList_eq, ByteArray.toList_eq, hq]; simp
        have HR := Lib.hid (HF.out.trans (hht hq))
        clear hnx hht hq
        go_wp2_with fail
        go_ret
        exact ⟨by rw [HR.out]; rfl, rfl⟩
      · have t : (nm.toList == s.toList) = false := by rw [ByteArray.toList_eq, ByteArray.toList_eq]; simpa using hq
        have HR := Lib.hid (HF.out.trans (hnx hq))
        clear hnx hht hq
        go_wp2_with fail
        go_round
        case rel => exact ⟨k + 1, by omega, by go_num, HR⟩
        case measure => simp [intOf]; omega
    · have g0 : ¬ (k : Int) < (ls.length : Int) := by omega
      have HR := Lib.hid (HF.out.trans (ofL_end (by omega)))
      go_wp2_with fail
      go_ret
      exact ⟨by rw [HR.out]; rfl, rfl⟩

set_option maxHeartbeats 2000000 in
theorem qMay_any (g : Nat) (ls : List Cnt) (s : ByteArray) (x : Int) (w : World) (h : RDk w g v0 v1 v2 v3 v4 v5 v6 v7 ls) (hs : s.size ≤ 9000000000000000000) (hl : ls.length ≤ 12) :
    Calls Tryz.prog 26 #[.pointer (some ⟨g, 0, none⟩), .string s, .int .i64 x] w fun e w' => e = .returned (.int .i64 (mayL ls s x)) ∧ w = w' := by
  have HO := Lib.hid (qOf_any g ls s w h hl)
  cases hn : okName s
  · have HE : Hid (mayL ls s x = 3) := Lib.hid (by unfold mayL; rw [hn]; rfl)
    go_enter Tryz.func26, Tryz.ntmps26
    go_wp2_with (go_at_call 39; refine (rName_any s _ hs).mono ?_; rintro e w1 ⟨rfl, rfl⟩; rw [hn])
    go_ret
    exact ⟨by rw [HE.out]; rfl, rfl⟩
  · obtain ⟨V, hV⟩ : ∃ V, ofL ls s.data.toList = V := ⟨_, rfl⟩
    rw [hV] at HO
    by_cases h1 : x < 1
    · have HE : Hid (mayL ls s x = 1) := Lib.hid (by unfold mayL; rw [hn, if_pos rfl, if_pos (Or.inl h1)])
      go_enter Tryz.func26, Tryz.ntmps26
      go_wp2_with (go_at_call 39; refine (rName_any s _ hs).mono ?_; rintro e w1 ⟨rfl, rfl⟩; rw [hn])
      go_ret
      exact ⟨by rw [HE.out]; rfl, rfl⟩
    · by_cases h2 : 1000 < x
      · have HE : Hid (mayL ls s x = 1) := Lib.hid (by unfold mayL; rw [hn, if_pos rfl, if_pos (Or.inr h2)])
        go_enter Tryz.func26, Tryz.ntmps26
        go_wp2_with (go_at_call 39; refine (rName_any s _ hs).mono ?_; rintro e w1 ⟨rfl, rfl⟩; rw [hn])
        go_ret
        exact ⟨by rw [HE.out]; rfl, rfl⟩
      · by_cases h3 : x < V
        · have HE : Hid (mayL ls s x = 9) := Lib.hid (by unfold mayL; rw [hn, if_pos rfl, if_neg (by omega), hV, if_pos h3])
          go_enter Tryz.func26, Tryz.ntmps26
          go_wp2_with (first | (go_at_call 39; refine (rName_any s _ hs).mono ?_; rintro e w1 ⟨rfl, rfl⟩; rw [hn]) | (go_at_call 40; refine HO.out.mono ?_; rintro e w1 ⟨rfl, rfl⟩))
          go_ret
          exact ⟨by rw [HE.out]; rfl, rfl⟩
        · have HE : Hid (mayL ls s x = 0) := Lib.hid (by unfold mayL; rw [hn, if_pos rfl, if_neg (by omega), hV, if_neg h3])
          go_enter Tryz.func26, Tryz.ntmps26
          go_wp2_with (first | (go_at_call 39; refine (rName_any s _ hs).mono ?_; rintro e w1 ⟨rfl, rfl⟩; rw [hn]) | (go_at_call 40; refine HO.out.mono ?_; rintro e w1 ⟨rfl, rfl⟩))
          go_ret
          exact ⟨by rw [HE.out]; rfl, rfl⟩

/-- .. their list in the block lb. -/
def RD3 (w : World) (g lb : Nat) (v0 v1 v2 v3 v4 v5 v6 v7 : Value) (ls : List Cnt) : Prop :=
  ∃ (A : Option Addr) (c : Nat), Box w g 32 #[.slice A ls.length c, v0, v1, v2, v3, v4, v5, v6, v7] ∧ OwnC w (g + 1) 88 2 A c ls.length (cntCells ls) ∧ (∀ k, At A k → k = lb)
theorem RD3.cnt {w : World} {g lb : Nat} {ls : List Cnt} (h : RD3 w g lb v0 v1 v2 v3 v4 v5 v6 v7 ls) : RDk w g v0 v1 v2 v3 v4 v5 v6 v7 ls := by
  obtain ⟨A, c, h1, h2, _⟩ := h
  exact ⟨A, c, h1, h2⟩
theorem RD3.but {S : Nat → Prop} {w w' : World} {g lb : Nat} {ls : List Cnt} (h : RD3 w g lb v0 v1 v2 v3 v4 v5 v6 v7 ls) (k : But S w w') (h0 : ¬ S g) (h1 : ¬ S lb) : RD3 w' g lb v0 v1 v2 v3 v4 v5 v6 v7 ls := by
  obtain ⟨A, c, a1, a2, a3⟩ := h
  exact ⟨A, c, a1.but k h0, a2.but k (fun a ha hs => h1 (by have := a3 a.block ⟨a, ha, rfl⟩; rw [← this]; exact hs)), a3⟩
theorem RD3.below {w w' : World} {g lb : Nat} {ls : List Cnt} (h : RD3 w g lb v0 v1 v2 v3 v4 v5 v6 v7 ls) (hb : Below w.heap.size w w') : RD3 w' g lb v0 v1 v2 v3 v4 v5 v6 v7 ls := h.but (below_but hb (fun _ => False)) (fun h => h) (fun h => h)
theorem RD3.new (w : World) (lb : Nat) : RD3 (w.alloc (.cells #[.slice none 0 0, .int .i64 0, .int .i64 0, .int .i64 0, .int .i64 0, .int .i64 0, .int .i64 0, .int .i64 0, .int .i64 0] 32)) w.heap.size lb (.int .i64 0) (.int .i64 0) (.int .i64 0) (.int .i64 0) (.int .i64 0) (.int .i64 0) (.int .i64 0) (.int .i64 0) [] :=
  ⟨none, 0, Box.new _ _ _, OwnC.start _ _ _ _, fun k ⟨a, ha, _⟩ => by cases ha⟩
def RaisePostD (g lb : Nat) (v0 v1 v2 v3 v4 v5 v6 v7 : Value) (ls : List Cnt) (s : ByteArray) (x : Int) (w : World) (e : Ending) (w' : World) : Prop :=
  e = .returned (.tuple #[.bool (raiseB ls s x), .int .i64 (raiseE ls s x)]) ∧ (∃ lb', RD3 w' g lb' v0 v1 v2 v3 v4 v5 v6 v7 (raiseL ls s x) ∧ (lb' = lb ∨ (w.heap.size ≤ lb' ∧ lb' < w'.heap.size))) ∧ But (fun k => k = g ∨ k = lb) w w'

set_option maxHeartbeats 4000000 in
theorem qRaise_any (g lb : Nat) (ls : List Cnt) (s : ByteArray) (x : Int) (w : World) (h : RD3 w g lb v0 v1 v2 v3 v4 v5 v6 v7 ls) (hs : s.size ≤ 9000000000000000000) (hl : ls.length ≤ 12) :
    Calls Tryz.prog 25 #[.pointer (some ⟨g, 0, none⟩), .string s, .int .i64 x] w (RaisePostD g lb v0 v1 v2 v3 v4 v5 v6 v7 ls s x w) := by
  have HO := Lib.hid (qOf_any g ls s w h.cnt hl)
  cases hn : okName s
  · have HE : Hid (raiseE ls s x = 3 ∧ raiseB ls s x = false ∧ raiseL ls s x = ls) := Lib.hid (by unfold raiseE raiseB raiseL; rw [hn]; exact ⟨rfl, rfl, rfl⟩)
    have HR := Lib.hid h
    clear h
    go_enter Tryz.func25, Tryz.ntmps25
    go_wp2_with (go_at_call 39; refine (rName_any s _ hs).mono ?_; rintro e w1 ⟨rfl, rfl⟩; rw [hn])
    go_ret2
    exact ⟨by rw [HE.out.1, HE.out.2.1]; rfl, ⟨lb, by rw [HE.out.2.2]; exact HR.out, Or.inl rfl⟩, But.refl _ _⟩
  by_cases hx : x < 0 ∨ 1000 < x
  · have HE : Hid (raiseE ls s x = 1 ∧ raiseB ls s x = false ∧ raiseL ls s x = ls) := Lib.hid (by unfold raiseE raiseB raiseL; rw [hn, if_pos rfl, if_pos hx, if_pos rfl, if_pos hx, if_pos rfl, if_pos hx]; exact ⟨rfl, rfl, rfl⟩)
    have HR := Lib.hid h
    clear h
    by_cases h1 : x < 0
    · go_enter Tryz.func25, Tryz.ntmps25
      go_wp2_with (go_at_call 39; refine (rName_any s _ hs).mono ?_; rintro e w1 ⟨rfl, rfl⟩; rw [hn])
      go_ret2
      exact ⟨by rw [HE.out.1, HE.out.2.1]; rfl, ⟨lb, by rw [HE.out.2.2]; exact HR.out, Or.inl rfl⟩, But.refl _ _⟩
    · have h2 : 1000 < x := by omega
      go_enter Tryz.func25, Tryz.ntmps25
      go_wp2_with (go_at_call 39; refine (rName_any s _ hs).mono ?_; rintro e w1 ⟨rfl, rfl⟩; rw [hn])
      go_ret2
      exact ⟨by rw [HE.out.1, HE.out.2.1]; rfl, ⟨lb, by rw [HE.out.2.2]; exact HR.out, Or.inl rfl⟩, But.refl _ _⟩
  have h1 : ¬ x < 0 := by omega
  have h2 : ¬ 1000 < x := by omega
  obtain ⟨V, hV⟩ : ∃ V, ofL ls s.data.toList = V := ⟨_, rfl⟩
  rw [hV] at HO
  by_cases h3 : x ≤ V
  · have HE : Hid (raiseE ls s x = 0 ∧ raiseB ls s x = false ∧ raiseL ls s x = ls) := Lib.hid (by unfold raiseE raiseB raiseL; simp [hn, hx, hV, h3])
    have HR := Lib.hid h
    clear h hV hx
    go_enter Tryz.func25, Tryz.ntmps25
    go_wp2_with (first | (go_at_call 39; refine (rName_any s _ hs).mono ?_; rintro e w1 ⟨rfl, rfl⟩; rw [hn]) | (go_at_call 40; refine HO.out.mono ?_; rintro e w1 ⟨rfl, rfl⟩))
    go_ret2
    exact ⟨by rw [HE.out.1, HE.out.2.1]; rfl, ⟨lb, by rw [HE.out.2.2]; exact HR.out, Or.inl rfl⟩, But.refl _ _⟩
  have HL : Hid (raiseE ls s x = (if hasL ls s.data.toList then 0 else if ls.length < 12 then 0 else 4) ∧ raiseB ls s x = (if hasL ls s.data.toList then true else if ls.length < 12 then true else false) ∧ raiseL ls s x = (if hasL ls s.data.toList then setL ls s.data.toList x else if ls.length < 12 then ls ++ [(s, x)] else ls)) := Lib.hid (by
    unfold raiseE raiseB raiseL; simp [hn, hx, hV, h3])
  obtain ⟨A, c, hb1, hb2, hb3⟩ := h
  have HLB := Lib.hid hb3
  have hgA : ¬ At A g := by
    rintro ⟨a, ha, e⟩
    have := (hb2.at_ a ha).1
    omega
  have HGA := Lib.hid hgA
  have HOW := Lib.hid hb2
  have HBX := Lib.hid hb1
  have cB := hb1.cell
  have lB := hb1.lt
  have fB := hb1.frozen
  clear hb1 hb2 hb3 hgA hV hx
  go_enter Tryz.func25, Tryz.ntmps25
  go_wp2_with (first | (go_at_call 39; refine (rName_any s _ hs).mono ?_; rintro e w1 ⟨rfl, rfl⟩; rw [hn]) | (go_at_call 40; refine HO.out.mono ?_; rintro e w1 ⟨rfl, rfl⟩))
  go_loop [9] (fun i => ∃ k : Nat, k ≤ ls.length ∧ i = .int .i64 k ∧ Hid (∀ j, j < k → (ls.getD j noCnt).1.data.toList ≠ s.data.toList) ∧ Hid (hasL ls s.data.toList = hasL (ls.drop k) s.data.toList)) (fun i => ls.length - (intOf i).toNat)
  case atStart => exact ⟨0, Nat.zero_le _, rfl, Lib.hid (fun j hj => absurd hj (by omega)), Lib.hid rfl⟩
  case round =>
    obtain ⟨k, hk, rfl, HF, HH⟩ := hrel
    by_cases hlt : k < ls.length
    · have g0 : (k : Int) < (ls.length : Int) := by omega
      obtain ⟨a1, a2⟩ := cntCells_at ls k hlt
      obtain ⟨b1, o1, rfl, lb1, c1⟩ := HOW.out.cells _ _ a1
      obtain ⟨b2, o2, e2, lb2, c2⟩ := HOW.out.cells _ _ a2
      injection e2 with e2
      injection e2 with qa qb
      subst qa
      subst qb
      have ez := HOW.out.zero_off _ rfl
      injection ez with _ ez
      subst ez
      have f1 := HOW.out.frz
      have hhn := hasL_next (ls := ls) (t := s.data.toList) hlt
      have hhh := hasL_hit (ls := ls) (t := s.data.toList) hlt
      have hst := setL_hit (ls := ls) (t := s.data.toList) (x := x) HF.out hlt
      have hcs := cntCells_set ls k x hlt
      obtain ⟨⟨nm, y⟩, hz⟩ : ∃ z, ls.getD k noCnt = z := ⟨_, rfl⟩
      have HZ := Lib.hid hz
      rw [hz] at c1 c2 hhn hhh hst hcs
      simp only [Nat.zero_add] at c1 c2 hhn hhh hst hcs
      clear hz a1 a2
      by_cases hq : nm.data.toList = s.data.toList
      · have t : (nm.toList == s.toList) = true := by rw [ByteArray.toList_eq, ByteArray.toList_eq, hq]; simp
        have HST := Lib.hid (hst hq)
        have HCS := Lib.hid hcs
        have HHS : Hid (hasL ls s.data.toList = true) := Lib.hid (HH.out.trans (hhh hq))
        have hgb : g ≠ b1 := by have := (HOW.out.at_ _ rfl).1; simp at this; omega
        have HBL : Hid (b1 = lb) := Lib.hid (HLB.out b1 ⟨_, rfl, rfl⟩)
        clear hhn hhh hst hcs hq
        go_wp2_with fail
        go_ret2
        refine ⟨by rw [HL.out.1, HL.out.2.1, HHS.out]; rfl, ?_, (But.refl _ _).setCell (p := ⟨b1, k * 2 + 1, none⟩) (Or.inl (Or.inr HBL.out)) _⟩
        rw [HL.out.2.2, HHS.out, if_pos rfl, HST.out]
        refine ⟨lb, ⟨some ⟨b1, 0, none⟩, c, ?_, ?_, HLB.out⟩, Or.inl rfl⟩
        · rw [List.length_set]
          exact HBX.out.far (p := ⟨b1, k * 2 + 1, none⟩) hgb _
        · have h := (World.ownsRow.stored HOW.out (k * 2 + 1) (.int .i64 x)).1
          rw [← HCS.out] at h
          unfold OwnC
          rw [List.length_set]
          exact h
      · have t : (nm.toList == s.toList) = false := by rw [ByteArray.toList_eq, ByteArray.toList_eq]; simpa using hq
        have HF2 : Hid (∀ j, j < k + 1 → (ls.getD j noCnt).1.data.toList ≠ s.data.toList) := Lib.hid (fun j hj => by
          rcases Nat.lt_or_ge j k with h | h
          · exact HF.out j h
          · obtain rfl : j = k := by omega
            rw [HZ.out]; exact hq)
        have HH2 := Lib.hid (HH.out.trans (hhn hq))
        clear hhn hhh hst hcs hq
        go_wp2_with fail
        go_round
        case rel => exact ⟨k + 1, by omega, by go_num, HF2, HH2⟩
        case measure => simp [intOf]; omega
    · have g0 : ¬ (k : Int) < (ls.length : Int) := by omega
      have HHS : Hid (hasL ls s.data.toList = false) := Lib.hid (HH.out.trans (hasL_end (by omega)))
      by_cases h12 : ls.length < 12
      · have g1 : ¬ (12 : Int) ≤ (ls.length : Int) := by omega
        have hCA : CellsAt (w.alloc (.cells #[.string s, .int .i64 x] 88)) (some ⟨w.heap.size, 0, none⟩) (cntCells [(s, x)]) := CellsAt.new_ w 88 (cntCells [(s, x)]) (0, 0)
        have HCA := Lib.hid hCA
        have B5 := HBX.out.alloc_ (.cells #[.string s, .int .i64 x] 88)
        have HB5 := Lib.hid B5
        clear hCA
        go_upto_region 16 with fail
        go_wp2_with (at_builtin; refine app_cells_but rfl _ _ 26 88 rfl Tryz.underlying26 infoLeast (by decide) (by decide) (g + 1) A c ls.length (cntCells ls) rfl (HOW.out.below (grow_alloc (grow_refl _) _)) ⟨w.heap.size, 0, none⟩ 1 1 (cntCells [(s, x)]) rfl HCA.out (by simp [cntCells]) (cntCells_one _) (by omega) (by omega) (by simp; omega) ?_; intro A2 c2 k2 w4 hk2 ho2 hb4 hat; have HAT := Lib.hid hat; have HB4 := Lib.hid hb4; clear hat; have hB4 := HB5.out.but hb4 HGA.out; clear hb4; have cB4 := hB4.cell; have lB4 := hB4.lt; have fB4 := hB4.frozen)
        go_ret2
        refine ⟨by rw [HL.out.1, HL.out.2.1, HHS.out, if_pos h12, if_pos h12]; rfl, ?_, ?_⟩
        · rw [HL.out.2.2, HHS.out, if_neg (by decide), if_pos h12]
          obtain rfl : k2 = ls.length + 1 := hk2.out
          obtain ⟨lb', h5, h6⟩ : ∃ lb', (∀ k, At A2 k → k = lb') ∧ (lb' = lb ∨ (w.heap.size ≤ lb' ∧ lb' < w4.heap.size)) := by
            rcases A2 with _ | a
            · exact ⟨lb, (fun k hk => by obtain ⟨a, ha, _⟩ := hk; cases ha), Or.inl rfl⟩
            · refine ⟨a.block, (fun k hk => by obtain ⟨a', ha, hb⟩ := hk; injection ha with ha; rw [ha]; exact hb.symm), ?_⟩
              rcases HAT.out _ ⟨a, rfl, rfl⟩ with h | h
              · exact Or.inl (HLB.out _ h)
              · exact Or.inr ⟨by rw [h]; simp, (ho2.at_ a rfl).2⟩
          refine ⟨lb', ⟨A2, c2, ?_, ?_, h5⟩, by simpa [World.setCell] using h6⟩
          · rw [List.length_append]
            have h := hB4.set_ 0 (.slice A2 (ls.length + 1) c2)
            exact h
          · rw [List.length_append, cntCells_append]
            exact OwnC.farP ho2 (p := ⟨g, 0, none⟩) (by show g < g + 1; omega) _
        · have h1 : But (fun k => k = g ∨ k = lb) w (w.alloc (.cells #[.string s, .int .i64 x] 88)) := (But.refl _ w).alloc _
          exact (h1.trans HB4.out (fun k _ hk => Or.inr (HLB.out k hk))).setCell (p := ⟨g, 0, none⟩) (Or.inl (Or.inl rfl)) _
      · have g1 : (12 : Int) ≤ (ls.length : Int) := by omega
        go_wp2_with fail
        go_ret2
        refine ⟨by rw [HL.out.1, HL.out.2.1, HHS.out, if_neg h12, if_neg h12]; rfl, ⟨lb, ?_, Or.inl rfl⟩, But.refl _ _⟩
        rw [HL.out.2.2, HHS.out, if_neg (by decide), if_neg h12]
        exact ⟨A, c, HBX.out, HOW.out, HLB.out⟩

end Go.Proofs.YtegiffdlfpdbkaaGreatDoor
