/- run.Run: a session, answered line by line. -/
import Derived.Test.YtegiffdlfpdbkaaGreatDoorRows
import Derived.Test.YtegiffdlfpdbkaaGreatDoorNum
import Derived.Test.YtegiffdlfpdbkaaGreatDoorBase
import Derived.Test.YtegiffdlfpdbkaaGreatDoorApp
import Derived.Test.YtegiffdlfpdbkaaGreatDoorFoot
import Derived.Test.YtegiffdlfpdbkaaGreatDoorImg
import Derived.Test.YtegiffdlfpdbkaaGreatDoorCount
import Derived.Test.YtegiffdlfpdbkaaGreatDoorCntP
import Derived.Test.YtegiffdlfpdbkaaGreatDoorCntC
import Derived.Test.YtegiffdlfpdbkaaGreatDoorParse
import Derived.Test.YtegiffdlfpdbkaaGreatDoorLines
import Derived.Test.YtegiffdlfpdbkaaGreatDoorLinesG
import Derived.Test.YtegiffdlfpdbkaaGreatDoorRangeL
import Derived.Test.YtegiffdlfpdbkaaGreatDoorBld
import Derived.Test.YtegiffdlfpdbkaaGreatDoorRunP
import Derived.Test.YtegiffdlfpdbkaaGreatDoorRunL
import Derived.Test.YtegiffdlfpdbkaaGreatDoorRunS
import Derived.Test.YtegiffdlfpdbkaaGreatDoorRunT
import Derived.Test.YtegiffdlfpdbkaaGreatDoorRun1
import Derived.Test.YtegiffdlfpdbkaaGreatDoorRun2
import Derived.Test.YtegiffdlfpdbkaaGreatDoorRun3
import Derived.Test.YtegiffdlfpdbkaaGreatDoorRun9
import Derived.Test.YtegiffdlfpdbkaaGreatDoorTold
import Derived.Test.YtegiffdlfpdbkaaGreatDoorShelf
import Derived.RangeFuncNested
import Derived.RangeFuncBound
import Derived.RangeFuncCalls
import Derived.RangeFuncLeaves
import Derived.Shelf.Abstract
import Derived.Shelf.RegionOpen
import Derived.WalkKit
import Derived.OwnWalkIn
import Derived.TacticsInMore
import Derived.LoopNIn
import Derived.LoopIn
import Derived.ControlIn
import Derived.Lib.Hide
namespace Go.Proofs.YtegiffdlfpdbkaaGreatDoor
open Go.RowKit Go.Shelf
set_option maxRecDepth 100000
set_option linter.unusedVariables false
set_option linter.unusedSimpArgs false
attribute [local go_sem] Oper.semAt_some

theorem linesR_any (s : ByteArray) (w : World) :
    Calls Tryz.prog 11 #[.string s] w fun e w' => e = .returned (.func (.func 30) #[] #[.pointer (some ⟨w.heap.size, 0, none⟩)]) ∧ w' = w.alloc (.cells #[.string s] 9) := by
  go_enter Tryz.func11, Tryz.ntmps11
  go_wp2
  go_ret
  exact ⟨rfl, rfl⟩
theorem newR_ce (w : World) :
    Calls Tryz.prog 10 #[] w fun e w' => e = .returned (.pointer (some ⟨w.heap.size + 1, 0, none⟩)) ∧ CE w' w.heap.size 0 [] ∧ Below w.heap.size w w' := by
  refine (countNewE_any w).mono ?_
  rintro e w' ⟨rfl, h, hb⟩
  refine ⟨rfl, ?_, hb⟩
  unfold CE
  have e1 : hasL [] = fun _ => false := by funext t; rfl
  have e2 : ofL [] = fun _ => 0 := by funext t; rfl
  rw [e1, e2]
  exact h

/-- What a round keeps: the desk, the variable that holds it, the builder. -/
structure RunI (w : World) (g : Nat) (pre : List ByteArray) (W : World) : Prop where
  desk : DeskAt W g w.heap.size pre.length (runF (pre.map trimN)).1
  var : Box W (g + 1) 37 #[.pointer (some ⟨g, 0, none⟩)]
  bld : BldAt W (g + 2) (g + 6) (runF (pre.map trimN)).2.data.toList
  nil : pre = [] → Box W (g + 2) 45 #[.pointer none, .slice none 0 0]
  bel : Below w.heap.size w W
theorem RunI.but {S : Nat → Prop} {w W W' : World} {g : Nat} {pre : List ByteArray} (h : RunI w g pre W) (hb : But S W W') (hS : ∀ j, S j → g + 2 < j ∧ j < g + 6) (hg : w.heap.size + 1 < g) : RunI w g pre W' := by
  refine ⟨h.desk.but hb (fun e => by have := hS _ e; omega) (fun e => by have := hS _ e; omega) (fun e => by have := hS _ e; omega), h.var.but hb (fun e => by have := hS _ e; omega), h.bld.but hb (fun e => by have := hS _ e; omega) (fun j hj _ e => by have := hS _ e; omega), fun e => (h.nil e).but hb (fun e => by have := hS _ e; omega), ?_⟩
  exact h.bel.trans (hb.below h.bel.size (fun j e => by have := hS _ e; omega))

set_option maxHeartbeats 1000000 in
theorem run_long (t : ByteArray) (w : World) (hz : 3000 < t.size) :
    Calls Tryz.prog 6 #[.string t] w fun e w' => e = .returned (.string (runT t)) ∧ Below w.heap.size w w' := by
  have HR : Hid (runT t = { data := #[116, 111, 111, 32, 108, 111, 110, 103, 10] }) := Lib.hid (by unfold runT; rw [if_pos hz])
  have h1 : (3000 : Int) < (t.size : Int) := by omega
  refine (callsIn_wide (n := 3)).1 ?_
  refine callsIn_of_wp_marks Tryz.func6 rfl trivial ?_
  simp only [Tryz.ntmps6, List.size_toArray, List.length_cons, List.length_nil, Nat.reduceAdd, Nat.reduceSub, Array.replicate_succ, Array.replicate_zero, List.push_toArray, List.append_toArray, List.nil_append, List.cons_append]
  clear hz
  gi_wp2
  refine ⟨.string { data := #[116, 111, 111, 32, 108, 111, 110, 103, 10] }, ?_, by rw [HR.out], Below.refl _ _⟩
  simp [results, Tryz.results6]

set_option maxHeartbeats 2000000 in
theorem run_short (t : ByteArray) (w : World) (hz : t.size ≤ 3000) (hR : ReadT w) (hU : UnreadT w) (hD : Door w) :
    Calls Tryz.prog 6 #[.string t] w fun e w' => e = .returned (.string (runT t)) ∧ Below w.heap.size w w' := by
  have HR : Hid (runT t = (runF (linesT t)).2) := Lib.hid (by unfold runT; rw [if_neg (by omega)])
  have HRT := Lib.hid hR
  have HUT := Lib.hid hU
  have HDT := Lib.hid hD
  have h1 : ¬ (3000 : Int) < (t.size : Int) := by omega
  clear hR hU hD
  refine (callsIn_wide (n := 3)).1 ?_
  refine callsIn_of_wp_marks Tryz.func6 rfl trivial ?_
  simp only [Tryz.ntmps6, List.size_toArray, List.length_cons, List.length_nil, Nat.reduceAdd, Nat.reduceSub, Array.replicate_succ, Array.replicate_zero, List.push_toArray, List.append_toArray, List.nil_append, List.cons_append]
  gi_wp2
  refine ⟨trivial, ?_⟩
  refine (callsIn_wide.2 (newR_ce _)).mono ?_
  rintro e w1 ⟨rfl, hC, hb1⟩
  have HC := Lib.hid hC
  have HB1 := Lib.hid hb1
  clear hC hb1
  gi_wp2
  refine ⟨trivial, ?_⟩
  refine (callsIn_wide.2 (linesR_any t _)).mono ?_
  rintro e w2 ⟨rfl, rfl⟩
  gi_wp2
  obtain ⟨g, hg⟩ : ∃ g, w1.heap.size = g := ⟨_, rfl⟩
  have hlc : w.heap.size + 1 < w1.heap.size := by obtain ⟨D, h2, _⟩ := HC.out; exact h2.lt
  have hx0 := Box.new w1 41 #[.pointer (some ⟨w.heap.size + 1, 0, none⟩), .int .i64 0, .int .i64 0, .int .i64 0, .int .i64 0, .int .i64 0, .int .i64 0, .int .i64 0, .int .i64 0]
  obtain ⟨W0, hW0⟩ : ∃ W0, w1.alloc (.cells #[.pointer (some ⟨w.heap.size + 1, 0, none⟩), .int .i64 0, .int .i64 0, .int .i64 0, .int .i64 0, .int .i64 0, .int .i64 0, .int .i64 0, .int .i64 0] 41) = W0 := ⟨_, rfl⟩
  have hz0 : W0.heap.size = w1.heap.size + 1 := by rw [← hW0]; simp
  have hk0 : Below w1.heap.size w1 W0 := by rw [← hW0]; exact grow_alloc (grow_refl _) _
  rw [hW0] at hx0 ⊢
  have hx1 := ((Box.new W0 37 #[.pointer (some ⟨w1.heap.size, 0, none⟩)]).alloc_ (.cells #[.pointer none, .slice none 0 0] 45)).alloc_ (.cells #[.string t] 9)
  have hx2 := (Box.new (W0.alloc (.cells #[.pointer (some ⟨w1.heap.size, 0, none⟩)] 37)) 45 #[.pointer none, .slice none 0 0]).alloc_ (.cells #[.string t] 9)
  have hx3 := Box.new ((W0.alloc (.cells #[.pointer (some ⟨w1.heap.size, 0, none⟩)] 37)).alloc (.cells #[.pointer none, .slice none 0 0] 45)) 9 #[.string t]
  have hx0' := ((hx0.alloc_ (.cells #[.pointer (some ⟨w1.heap.size, 0, none⟩)] 37)).alloc_ (.cells #[.pointer none, .slice none 0 0] 45)).alloc_ (.cells #[.string t] 9)
  have hk1 : Below w1.heap.size w1 (((W0.alloc (.cells #[.pointer (some ⟨w1.heap.size, 0, none⟩)] 37)).alloc (.cells #[.pointer none, .slice none 0 0] 45)).alloc (.cells #[.string t] 9)) := grow_alloc (grow_alloc (grow_alloc hk0 _) _) _
  simp only [World.size_alloc, hz0] at hx1 hx2 hx3
  obtain ⟨WL, hWL⟩ : ∃ WL, (((W0.alloc (.cells #[.pointer (some ⟨w1.heap.size, 0, none⟩)] 37)).alloc (.cells #[.pointer none, .slice none 0 0] 45)).alloc (.cells #[.string t] 9)) = WL := ⟨_, rfl⟩
  have hLz : WL.heap.size = w1.heap.size + 4 := by rw [← hWL]; simp [hz0]
  rw [hWL] at hx0' hx1 hx2 hx3 hk1 ⊢
  have hC := HC.out.below hk1
  have hbel : Below w.heap.size w WL := grow_step HB1.out hk1
  rw [hg] at hx0' hx1 hx2 hx3 hLz hlc
  simp only [hg]
  have HG := Lib.hid hg
  have HX3 := Lib.hid hx3
  have h0 : RunI w g [] WL := by
    refine ⟨⟨hx0', ⟨0, Nat.le_refl _, hC⟩, dsk0_ok, by omega, by omega⟩, hx1, ⟨_, _, hx2, Or.inl rfl, World.ownsRow_nil _ _ _ _, by omega⟩, fun _ => hx2, hbel⟩
  have HLZ := Lib.hid hLz
  clear hx0 hx0' hx1 hx2 hx3 hk0 hk1 hW0 hWL hz0 hC hbel hg hLz HC
  refine wp_range_own (gf := 30) (lb := #[.pointer (some ⟨g + 1 + 1 + 1, 0, none⟩)]) (sb := g + 3) (t := 9) (ls := pieces (cutN t)) rfl (enters_of Tryz.func30 (by kernel_rfl) rfl) (by have := HLZ.out; omega) ?it rfl (fun k => k = g ∨ k = w.heap.size ∨ k = g + 2 ∨ g + 6 ≤ k) (by have := HLZ.out; refine ⟨?_, ?_, ?_⟩ <;> omega)
    (fun pre W => RunI w g pre W) ?hI h0
    (fun x => { tmps := #[Value.string t, undef, Value.string { data := #[] }, Value.pointer (some { block := g + 1, off := 0 }), Value.pointer (some { block := g + 1 + 1, off := 0 }), Value.string x, Value.string t, Value.int IntKind.i64 t.size, Value.bool false, Value.pointer (some { block := w.heap.size + 1, off := 0 }), Value.agg #[Value.pointer (some { block := w.heap.size + 1, off := 0 }), Value.int IntKind.i64 0, Value.int IntKind.i64 0, Value.int IntKind.i64 0, Value.int IntKind.i64 0, Value.int IntKind.i64 0, Value.int IntKind.i64 0, Value.int IntKind.i64 0, Value.int IntKind.i64 0], Value.pointer (some { block := g, off := 0 }), Value.string t, Value.func (Fn.func 30) #[] #[Value.pointer (some { block := g + 1 + 1 + 1, off := 0 })], Value.string x, undef, undef, undef, undef, undef, undef, undef], defers := [] }) ?assign ?body ?done
  case it =>
    intro l J W hJ hY hb hj
    exact linesItG 2 (by decide) l (g + 3) J (pieces (cutN t)) hJ hY t (pieces_text t) (by omega) (pieces_lined _ (cutN_clean t)) W (HX3.out.below hb) hj
  case hI =>
    intro pre W W' h hb
    exact h.but hb (fun j e => by have := HLZ.out; omega) hlc
  case assign =>
    intro l x W K hK
    gi_wp2
    exact hK
  case body =>
    intro l pre x rest W hls hsz hI
    have hL := HLZ.out
    have hpl : pre.length + 1 ≤ 3001 := by
      have h2 := congrArg List.length (pieces_trim (cutN t) (cutN_clean t))
      rw [List.length_map, hls] at h2
      have h3 := lines_le t
      unfold linesT at h3
      simp at h2
      omega
    have hxs : x.size ≤ t.size := by
      have h2 := congrArg List.length (pieces_text t)
      rw [hls, flatB_app, flatB_cons] at h2
      simp at h2
      omega
    have hts : (trimN x).size ≤ 3000 := by
      have h2 := line_le t (trimN x) (by
        unfold linesT
        rw [← pieces_trim (cutN t) (cutN_clean t), hls]
        simp)
      omega
    have hos := runF_size (pre.map trimN)
    rw [List.length_map] at hos
    have hsn : runF ((pre ++ [x]).map trimN) = stepR (runF (pre.map trimN)) (trimN x) := by rw [List.map_append]; exact runF_snoc _ _
    have hvs := lineR_size (runF_ok (pre.map trimN)) (wordsB (trimN x))
    have HT : Hid (∀ w2, Calls Tryz.prog 14 #[.string x, .string { data := #[10] }] w2 fun e w' => e = .returned (.string (trimN x)) ∧ w' = w2) := Lib.hid (fun w2 => Tryz.strings_TrimSuffix x { data := #[10] } w2 (by omega))
    obtain ⟨hI1, hI2, hI3, hI4, hI5⟩ := hI
    unfold stepR at hsn
    obtain ⟨p, hp⟩ : ∃ p, runF (pre.map trimN) = p := ⟨_, rfl⟩
    rw [hp] at hI1 hI3 hos hsn hvs
    obtain ⟨d, o⟩ := p
    simp only at hI1 hI3 hos hsn hvs
    obtain ⟨s, hs⟩ : ∃ s, trimN x = s := ⟨_, rfl⟩
    rw [hs] at hts hsn HT hvs
    obtain ⟨R, hR⟩ : ∃ R, lineR d (wordsB s) = R := ⟨_, rfl⟩
    have HA : Hid (∀ W2, Below W.heap.size W W2 → Calls Tryz.prog 13 #[.pointer (some ⟨g, 0, none⟩), .string s] W2 fun e w' => e = .returned (.string R.1) ∧ DeskAt w' g w.heap.size (pre.length + 1) R.2 ∧ But (fun k => k = g ∨ k = w.heap.size) W2 w') := Lib.hid (fun W2 hb => by
      have hw2 : Below w.heap.size w W2 := grow_step hI5 hb
      have hE : ∀ w', But (fun k => k = g ∨ k = w.heap.size) W2 w' → Below w.heap.size w w' := fun w' hk => hw2.trans (hk.below hw2.size (fun k e => by omega))
      have h2 := answer_any W2 g w.heap.size pre.length d s (hI1.below hb) hts (by omega) (fun w' hk => ⟨HRT.out.below (hE w' hk), HUT.out.below (hE w' hk)⟩) (fun w' hk => HDT.out.below (hE w' hk))
      rw [hR] at h2
      exact h2)
    rw [hR] at hsn hvs
    have HW : Hid (∀ W2 W3, Below W.heap.size W W2 → But (fun k => k = g ∨ k = w.heap.size) W2 W3 → Calls Tryz.prog 12 #[.pointer (some ⟨g + 1 + 1, 0, none⟩), .string (R.1 ++ tNl)] W3 fun e w' => e = .returned (.tuple #[.int .i64 (R.1 ++ tNl).size, .nilIface]) ∧ BldAt w' (g + 2) (g + 6) (o.data.toList ++ (R.1 ++ tNl).data.toList) ∧ But (fun k => k = g + 2 ∨ g + 6 ≤ k) W3 w') := Lib.hid (fun W2 W3 hb hk => by
      have h2 := hI3.but ((below_but hb (fun k => k = g ∨ k = w.heap.size)).trans hk (fun _ _ h => h)) (by omega) (fun j hj _ => by omega)
      have h3 : (R.1 ++ tNl).size ≤ 25 := by
        rw [ByteArray.size_append]
        have h4 : (tNl : ByteArray).size = 1 := rfl
        omega
      have h5 : o.data.toList.length = o.size := by simp
      exact bWrite_any (g + 2) (g + 6) _ _ W3 h2 (by omega) (by have := hb.size; have := hk.size; omega))
    have f1 : ∀ w, (Op.stringOp .add R.1 { data := #[10] }).run Tryz.prog w = .ok (.string (R.1 ++ tNl)) w := fun w => run_string_add_sum _ _ _ (by
      have h4 : ({ data := #[10] } : ByteArray).size = 1 := rfl
      omega)
    have mixed : Tryz.prog.follows .mixedOrders = true := by kernel_rfl
    have cV := hI2.cell
    have lV := hI2.lt
    have HSN := Lib.hid hsn
    have HI2 := Lib.hid hI2
    have HI5 := Lib.hid hI5
    obtain ⟨v, d2⟩ := R
    simp only at HA HW f1 HSN
    clear hls hI1 hI2 hI3 hI4 hI5 hsn hp hs hR hvs hos hxs hts
    gi_wp2
    gi_region_with_o (first
      | (refine ⟨trivial, ?_⟩; gi_at_call 14; refine (CallsIn.inRound l (callsIn_wide.2 (HT.out _))).mono ?_; rintro e w' ⟨rfl, rfl⟩)
      | (refine ⟨trivial, ?_⟩; gi_at_call 13; refine (CallsIn.inRound l (callsIn_wide.2 (HA.out _ (by repeat (first | exact grow_refl _ | refine grow_drew ?_))))).mono ?_; rintro e w5 ⟨rfl, hd5, hk5⟩)
      | (refine ⟨trivial, ?_⟩; gi_at_call 12; refine (CallsIn.inRound l (callsIn_wide.2 (HW.out _ _ (by repeat (first | exact grow_refl _ | refine grow_drew ?_)) hk5))).mono ?_; rintro e w6 ⟨rfl, hb6, hk6⟩))
    all_goals gi_wp2
    all_goals
      have hkT : But (fun k => k = g ∨ k = w.heap.size ∨ k = g + 2 ∨ g + 6 ≤ k) W w6 := ((below_but (by repeat (first | exact grow_refl _ | refine grow_drew ?_)) (fun k => k = g ∨ k = w.heap.size ∨ k = g + 2 ∨ g + 6 ≤ k)).trans (hk5.mono (S' := fun k => k = g ∨ k = w.heap.size ∨ k = g + 2 ∨ g + 6 ≤ k) (fun k _ e => by omega)) (fun _ _ h => h)).trans hk6 (fun k _ e => by omega)
      refine ⟨hkT, ?_⟩
      show RunI w g (pre ++ [x]) w6
      refine ⟨?_, HI2.out.but hkT (by omega), ?_, fun e => absurd e (by simp), HI5.out.trans (hkT.below HI5.out.size (fun k e => by omega))⟩
      · rw [HSN.out, List.length_append]
        exact hd5.but hk6 (by omega) (by omega) (by omega)
      · rw [HSN.out]
        have e1 : (o ++ (v ++ tNl)).data.toList = o.data.toList ++ (v ++ tNl).data.toList := by simp
        show BldAt w6 (g + 2) (g + 6) (o ++ (v ++ tNl)).data.toList
        rw [e1]
        exact hb6
  case done =>
    intro W hI hK
    have hL := HLZ.out
    have hp : (pieces (cutN t)).map trimN = linesT t := pieces_trim (cutN t) (cutN_clean t)
    have HK := Lib.hid hK
    obtain ⟨hI1, hI2, hI3, hI4, hI5⟩ := hI
    rw [hp] at hI3
    have HI5 := Lib.hid hI5
    have HSTR : Hid (Calls Tryz.prog 15 #[.pointer (some ⟨g + 1 + 1, 0, none⟩)] W fun e w' => e = .returned (.string (runF (linesT t)).2) ∧ But (fun k => g + 6 ≤ k) W w') := Lib.hid (by
      by_cases h0 : (runF (linesT t)).2.data.toList = []
      · have e0 : pieces (cutN t) = [] := by
          rcases List.eq_nil_or_concat (pieces (cutN t)) with h | ⟨q, y, h⟩
          · exact h
          · exfalso
            rw [← hp, h, List.concat_eq_append, List.map_append] at h0
            exact runF_ne _ _ h0
        refine (bString_nil (g + 2) _ W (hI4 e0)).mono ?_
        rintro e w' ⟨rfl, hk⟩
        refine ⟨?_, hk.mono (fun _ _ h => h.elim)⟩
        have e1 : (runF (linesT t)).2 = ⟨#[]⟩ := bytes_ext h0
        rw [e1]
      · refine (bString_any (g + 2) (g + 6) _ W hI3 h0).mono ?_
        rintro e w' ⟨rfl, hk⟩
        exact ⟨rfl, hk⟩)
    clear hI1 hI2 hI3 hI4 hI5 hK hp hL
    gi_wp2
    refine ⟨trivial, ?_⟩
    refine (callsIn_wide.2 HSTR.out).mono ?_
    rintro e w7 ⟨rfl, hk7⟩
    have hL := HLZ.out
    have hlk : WL.heap.size < W.heap.size := (Array.getElem?_eq_some_iff.1 HK.out).1
    have hK7 : w7.heap[WL.heap.size]? = some (.deferred (some [])) := (hk7.block _ hlk (by omega)).trans HK.out
    have hd : But (fun k => k = WL.heap.size) w7 (w7.putObj WL.heap.size (.deferred none)) := (But.refl (fun k => k = WL.heap.size) w7).putObj (Or.inl rfl) _
    have hw7 : Below w.heap.size w w7 := HI5.out.trans (hk7.below HI5.out.size (fun k e => by omega))
    have hw8 : Below w.heap.size w (w7.putObj WL.heap.size (.deferred none)) := hw7.trans (hd.below hw7.size (fun k e => by omega))
    have HW8 := Lib.hid hw8
    clear hd hw7 hw8 hk7 hlk hL
    gi_wp2
    refine ⟨by simp, .inl ⟨_, _, rfl, run_takeDeferred hK7, ?_⟩⟩
    refine ⟨.string (runF (linesT t)).2, ?_, by rw [HR.out], HW8.out⟩
    simp [results, Tryz.results6]

theorem run_any (t : ByteArray) (w : World) (hR : ReadT w) (hU : UnreadT w) (hD : Door w) :
    Calls Tryz.prog 6 #[.string t] w fun e w' => e = .returned (.string (runT t)) ∧ Below w.heap.size w w' := by
  by_cases hz : t.size ≤ 3000
  · exact run_short t w hz hR hU hD
  · exact run_long t w (by omega)

end Go.Proofs.YtegiffdlfpdbkaaGreatDoor
