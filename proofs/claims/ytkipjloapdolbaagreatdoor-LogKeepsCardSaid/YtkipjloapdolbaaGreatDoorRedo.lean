/- log.redo over whole records. -/
import Derived.Test.YtkipjloapdolbaaGreatDoorRows
import Derived.Test.YtkipjloapdolbaaGreatDoorNum
import Derived.Test.YtkipjloapdolbaaGreatDoorBase
import Derived.Test.YtkipjloapdolbaaGreatDoorFoot
import Derived.Test.YtkipjloapdolbaaGreatDoorImg
import Derived.Test.YtkipjloapdolbaaGreatDoorImg2
import Derived.Test.YtkipjloapdolbaaGreatDoorCount
import Derived.Test.YtkipjloapdolbaaGreatDoorCntP
import Derived.Test.YtkipjloapdolbaaGreatDoorCntC
import Derived.Test.YtkipjloapdolbaaGreatDoorLines
import Derived.Test.YtkipjloapdolbaaGreatDoorRangeL
import Derived.Test.YtkipjloapdolbaaGreatDoorLogP
import Derived.Test.YtkipjloapdolbaaGreatDoorLogA
import Derived.Test.YtkipjloapdolbaaGreatDoorWordsA
import Derived.Test.YtkipjloapdolbaaGreatDoorShelf
import Derived.RangeFuncNested
import Derived.RangeFuncBound
import Derived.RangeFuncCalls
import Derived.RangeFuncLeaves
import Derived.Shelf.Abstract
import Derived.Shelf.RegionOpen
import Derived.WalkKit
import Derived.OwnWalkIn
import Derived.TacticsInMore
import Derived.LoopNIn
import Derived.LoopIn
import Derived.ControlIn
import Derived.Lib.Hide
namespace Go.Proofs.YtkipjloapdolbaaGreatDoor
open Go.RowKit Go.Shelf
set_option maxRecDepth 100000
set_option linter.unusedVariables false
set_option linter.unusedSimpArgs false
attribute [local go_sem] Oper.semAt_some

theorem lines_any (s : ByteArray) (w : World) :
    Calls Tryz.prog 51 #[.string s] w fun e w' => e = .returned (.func (.func 78) #[] #[.pointer (some ⟨w.heap.size, 0, none⟩)]) ∧ w' = w.alloc (.cells #[.string s] 9) := by
  go_enter Tryz.func51, Tryz.ntmps51
  go_wp2
  go_ret
  exact ⟨rfl, rfl⟩
theorem new_ce (w : World) :
    Calls Tryz.prog 21 #[] w fun e w' => e = .returned (.pointer (some ⟨w.heap.size + 1, 0, none⟩)) ∧ CE w' w.heap.size 0 [] ∧ Below w.heap.size w w' := by
  refine (countNewE_any w).mono ?_
  rintro e w' ⟨rfl, h, hb⟩
  refine ⟨rfl, ?_, hb⟩
  unfold CE
  have e1 : hasL [] = fun _ => false := by funext t; rfl
  have e2 : ofL [] = fun _ => 0 := by funext t; rfl
  rw [e1, e2]
  exact h
theorem trim_any (r : ByteArray) (v : Int) (w : World) (hs : r.size ≤ 8) (hv : (itoaS v).size ≤ 4) :
    Calls Tryz.prog 53 #[.string (recS r v), .string { data := #[10] }] w fun e w' => e = .returned (.string ⟨(r.data.toList ++ 32 :: Lib.itoa v).toArray⟩) ∧ w' = w := by
  have h := Tryz.strings_TrimSuffix (recS r v) { data := #[10] } w (by rw [recS_size]; omega)
  rw [show (({ data := #[10] } : ByteArray)).data.toList = [10] from rfl, trim_rec] at h
  exact h
theorem bytes_back (s : ByteArray) : (⟨s.data.toList.toArray⟩ : ByteArray) = s := by rcases s with ⟨⟨l⟩⟩; rfl
theorem cutAny_rec (r : ByteArray) (v : Int) (w : World) (m : Int) (hm : w.cell? ⟨0, 0, none⟩ = some (.int .i64 m)) (hr : lowS r = true) (hs : r.size ≤ 8) (hv : (itoaS v).size ≤ 4) :
    Calls Tryz.prog 52 #[.string ⟨(r.data.toList ++ 32 :: Lib.itoa v).toArray⟩, .string { data := #[32] }] w fun e w' => e = .returned (.tuple #[.string r, .string (itoaS v), .bool true]) ∧ ∃ n, w' = w.drewN n := by
  have hz : (⟨(r.data.toList ++ 32 :: Lib.itoa v).toArray⟩ : ByteArray).size = r.size + 1 + (itoaS v).size := by
    show (r.data.toList ++ 32 :: Lib.itoa v).toArray.size = _
    have e : (itoaS v).size = (Lib.itoa v).length := by unfold itoaS; rfl
    rw [e]
    simp
    omega
  have h := Tryz.strings_Cut ⟨(r.data.toList ++ 32 :: Lib.itoa v).toArray⟩ { data := #[32] } m w (by rw [hz]; omega) hm
  have e : Lib.cut (⟨(r.data.toList ++ 32 :: Lib.itoa v).toArray⟩ : ByteArray).data.toList (({ data := #[32] } : ByteArray)).data.toList = (r.data.toList, Lib.itoa v, true) := cut_rec v hr
  rw [e] at h
  simp only [bytes_back] at h
  exact h
theorem atoiAny_rec (v : Int) (w : World) (h0 : 0 ≤ v) (h1 : v ≤ 1000) :
    Calls Tryz.prog 54 #[.string (itoaS v)] w fun e w' => e = .returned (.tuple #[.int .i64 v, .nilIface]) ∧ Below w.heap.size w w' := by
  have hl := itoa_len h0 h1
  refine (Tryz.strconv_Atoi_ok (itoaS v) (by omega) v (atoi_rec h0 h1) w).mono ?_
  rintro e w' ⟨rfl, rfl | ⟨t, rfl⟩⟩
  · exact ⟨rfl, Below.refl _ _⟩
  · exact ⟨rfl, bytes_below w _ t⟩

theorem run_loadVar_one {P : Program} {w : World} {g : Nat} {t ty : TypeId} {v : Value} (hb : Box w g t #[v]) (ha : (isAgg ty).run P w = .ok false w) : (loadVar ty ⟨g, 0, none⟩).run P w = .ok v w := by
  have hc : w.cell? ⟨g, 0, none⟩ = some v := by rw [hb.cell 0]; rfl
  unfold loadVar
  rw [Sem.run_bind, ha]
  simp [go_sem, hc, Result.andThen]
theorem results_cell3 {P : Program} {fn : Func} {p q r : Tmp} {tp tq tr : TypeId} (h : fn.results = #[.cell p tp, .cell q tq, .cell r tr]) {tmps : Array Value} {w : World} {a b c : Nat} {ta tb tc : TypeId} {u v x : Value}
    (hp : tmps.getD p undef = .pointer (some ⟨a, 0, none⟩)) (hq : tmps.getD q undef = .pointer (some ⟨b, 0, none⟩)) (hr : tmps.getD r undef = .pointer (some ⟨c, 0, none⟩))
    (ba : Box w a ta #[u]) (bb : Box w b tb #[v]) (bc : Box w c tc #[x]) (ga : (isAgg tp).run P w = .ok false w) (gb : (isAgg tq).run P w = .ok false w) (gc : (isAgg tr).run P w = .ok false w) :
    (results fn tmps).run P w = .ok (.tuple #[u, v, x]) w := by
  have hp' : tmps[p]?.getD undef = .pointer (some ⟨a, 0, none⟩) := by simpa using hp
  have hq' : tmps[q]?.getD undef = .pointer (some ⟨b, 0, none⟩) := by simpa using hq
  have hr' : tmps[r]?.getD undef = .pointer (some ⟨c, 0, none⟩) := by simpa using hr
  simp [results, h, hp', hq', hr', asAddr, run_loadVar_one ba ga, run_loadVar_one bb gb, run_loadVar_one bc gc]
/-- What a round of redo keeps: the counts at b, the two variables, the three results. -/
structure RedoI (w W : World) (H b : Nat) (rs : List Rec) (k : Nat) : Prop where
  cnt : ∃ n, n ≤ k ∧ CE W b n (raisedL (rs.take k))
  c : Box W H 58 #[.pointer (some ⟨b + 1, 0, none⟩)]
  many : Box W (H + 1) 3 #[.int .i64 (k : Int)]
  r0 : Box W w.heap.size 58 #[.pointer none]
  r1 : Box W (w.heap.size + 1) 3 #[.int .i64 0]
  r2 : Box W (w.heap.size + 1 + 1) 27 #[.nilIface]
  bel : Below w.heap.size w W
theorem RedoI.but {S : Nat → Prop} {w W W' : World} {H b : Nat} {rs : List Rec} {k : Nat} (h : RedoI w W H b rs k) (hb : But S W W') (hS : ∀ j, S j → H + 1 < j) (hH : b + 1 < H) (hw : w.heap.size + 1 + 1 < b) : RedoI w W' H b rs k := by
  obtain ⟨⟨n, hn, hC⟩, h1, h2, h3, h4, h5, h6⟩ := h
  refine ⟨⟨n, hn, hC.but hb (fun e => by have := hS _ e; omega) (fun e => by have := hS _ e; omega)⟩, h1.but hb (fun e => by have := hS _ e; omega), h2.but hb (fun e => by have := hS _ e; omega), h3.but hb (fun e => by have := hS _ e; omega), h4.but hb (fun e => by have := hS _ e; omega), h5.but hb (fun e => by have := hS _ e; omega), ?_⟩
  exact h6.trans (hb.below h6.size (fun j e => by have := hS _ e; omega))
theorem recsB_at {rs : List Rec} {pre rest : List ByteArray} {x : ByteArray} (h : recsB rs = pre ++ x :: rest) : ∃ (p : List Rec) (r : Rec) (q : List Rec), rs = p ++ r :: q ∧ x = recB r ∧ pre.length = p.length := by
  obtain ⟨p, q', he, hp, hq⟩ := List.map_eq_append_iff.1 h
  obtain ⟨r, q, hq2, hr, _⟩ := List.map_eq_cons_iff.1 hq
  exact ⟨p, r, q, by rw [he, hq2], hr.symm, by rw [← hp, List.length_map]⟩

set_option maxHeartbeats 2000000 in
theorem redo_any (rs : List Rec) (s : ByteArray) (hs : s.data.toList = flatB (recsB rs)) (hv : RecsOK rs) (hn : rs.length ≤ 1000) (hz : s.size ≤ 1048576) (w : World) (m : Int) (hm : w.cell? ⟨0, 0, none⟩ = some (.int .i64 m)) :
    Calls Tryz.prog 27 #[.string s] w fun e w' => ∃ b n : Nat, e = .returned (.tuple #[.pointer (some ⟨b + 1, 0, none⟩), .int .i64 (rs.length : Int), .nilIface]) ∧ CE w' b n (raisedL rs) ∧ n ≤ rs.length ∧ w.heap.size ≤ b ∧ b + 1 < w'.heap.size ∧ Below w.heap.size w w' := by
  have HS := Lib.hid hs
  have HV := Lib.hid hv
  have HM := Lib.hid hm
  clear hs hv hm
  refine (callsIn_wide (n := 3)).1 ?_
  refine callsIn_of_wp_marks Tryz.func27 rfl trivial ?_
  simp only [Tryz.ntmps27, List.size_toArray, List.length_cons, List.length_nil, Nat.reduceAdd, Nat.reduceSub, Array.replicate_succ, Array.replicate_zero, List.push_toArray, List.append_toArray, List.nil_append, List.cons_append]
  gi_wp2
  refine ⟨trivial, ?_⟩
  refine (callsIn_wide.2 (new_ce _)).mono ?_
  rintro e w1 ⟨rfl, hC, hb1⟩
  obtain ⟨b, hb⟩ : ∃ b, (((w.alloc (.cells #[.pointer none] 58)).alloc (.cells #[.int .i64 0] 3)).alloc (.cells #[.nilIface] 27)).heap.size = b := ⟨_, rfl⟩
  rw [hb] at hC
  have hbw : b = w.heap.size + 3 := by rw [← hb]; simp
  have HC := Lib.hid hC
  have hlb : b + 1 < w1.heap.size := by obtain ⟨D, h1, _⟩ := hC; exact h1.lt
  have R0 := Lib.hid ((((Box.new w 58 #[.pointer none]).alloc_ (.cells #[.int .i64 0] 3)).alloc_ (.cells #[.nilIface] 27)).below hb1)
  have R1 := Lib.hid (((Box.new (w.alloc (.cells #[.pointer none] 58)) 3 #[.int .i64 0]).alloc_ (.cells #[.nilIface] 27)).below hb1)
  have R2 := Lib.hid ((Box.new ((w.alloc (.cells #[.pointer none] 58)).alloc (.cells #[.int .i64 0] 3)) 27 #[.nilIface]).below hb1)
  simp only [World.size_alloc] at R1 R2
  have hw1 : Below w.heap.size w w1 := (by repeat (first | (with_reducible exact grow_refl _) | (with_reducible assumption) | (with_reducible refine grow_alloc ?_ _) | (with_reducible refine grow_set ?_ (by first | exact Nat.le_refl _ | (simp; done) | (simp; omega) | omega) _) | (with_reducible refine grow_drewN ?_ _) | (with_reducible refine grow_drew ?_) | (with_reducible refine grow_step ?_ (by assumption)) | (with_reducible refine grow_base ?_ (by assumption))))
  have hM1 := Lib.hid ((hw1.cell (World.block_lt_of_cell? w _ HM.out)).trans HM.out)
  simp only [hb]
  have HBW := Lib.hid hbw
  have hb2 : w.heap.size + 1 + 1 < b := by omega
  clear hC hb1 hb hbw
  gi_wp2
  refine ⟨trivial, ?_⟩
  refine (callsIn_wide.2 (lines_any s _)).mono ?_
  rintro e w2 ⟨rfl, rfl⟩
  gi_wp2
  have hL : ((w1.alloc (.cells #[.pointer (some ⟨b + 1, 0, none⟩)] 58)).alloc (.cells #[.int .i64 0] 3)).heap.size = w1.heap.size + 1 + 1 := by simp
  have hL3 : (((w1.alloc (.cells #[.pointer (some ⟨b + 1, 0, none⟩)] 58)).alloc (.cells #[.int .i64 0] 3)).alloc (.cells #[.string s] 9)).heap.size = w1.heap.size + 1 + 1 + 1 := by simp
  have hbn : Below w1.heap.size w1 (((w1.alloc (.cells #[.pointer (some ⟨b + 1, 0, none⟩)] 58)).alloc (.cells #[.int .i64 0] 3)).alloc (.cells #[.string s] 9)) := grow_alloc (grow_alloc (grow_alloc (grow_refl _) _) _) _
  have hbx := Box.new ((w1.alloc (.cells #[.pointer (some ⟨b + 1, 0, none⟩)] 58)).alloc (.cells #[.int .i64 0] 3)) 9 #[.string s]
  rw [hL] at hbx
  have hby := (Box.new (w1.alloc (.cells #[.pointer (some ⟨b + 1, 0, none⟩)] 58)) 3 #[.int .i64 0]).alloc_ (.cells #[.string s] 9)
  rw [show (w1.alloc (.cells #[.pointer (some ⟨b + 1, 0, none⟩)] 58)).heap.size = w1.heap.size + 1 by simp] at hby
  have hbz := ((Box.new w1 58 #[.pointer (some ⟨b + 1, 0, none⟩)]).alloc_ (.cells #[.int .i64 0] 3)).alloc_ (.cells #[.string s] 9)
  obtain ⟨WL, hWL⟩ : ∃ WL, ((w1.alloc (.cells #[.pointer (some ⟨b + 1, 0, none⟩)] 58)).alloc (.cells #[.int .i64 0] 3)).alloc (.cells #[.string s] 9) = WL := ⟨_, rfl⟩
  rw [hWL] at hL3 hbn hbx hby hbz ⊢
  have hwL : Below w.heap.size w WL := grow_step hw1 hbn
  have h0 : RedoI w WL w1.heap.size b rs 0 := ⟨⟨0, Nat.le_refl _, HC.out.below hbn⟩, hbz, hby, R0.out.below hbn, R1.out.below hbn, R2.out.below hbn, hwL⟩
  clear hWL hL
  have hw1s := hw1.size
  refine wp_range_own (gf := 78) (lb := #[.pointer (some ⟨w1.heap.size + 1 + 1, 0, none⟩)]) (sb := w1.heap.size + 1 + 1) (t := 9) (ls := recsB rs) rfl (enters_of Tryz.func78 (by kernel_rfl) rfl) (by omega) ?it rfl (fun k => k = b ∨ k = w1.heap.size + 1) ⟨by omega, by omega, by omega⟩
    (fun pre W => RedoI w W w1.heap.size b rs pre.length) ?hI h0
    (fun x => { tmps := #[Value.string s, undef, Value.pointer (some { block := w.heap.size, off := 0 }), Value.pointer (some { block := w.heap.size + 1, off := 0 }), Value.pointer (some { block := w.heap.size + 1 + 1, off := 0 }), Value.pointer (some { block := w1.heap.size, off := 0 }), Value.pointer (some { block := w1.heap.size + 1, off := 0 }), Value.string x, undef, undef, undef, undef, undef, undef, undef, Value.pointer (some { block := b + 1, off := 0 }), Value.string s, Value.func (Fn.func 78) #[] #[Value.pointer (some { block := w1.heap.size + 1 + 1, off := 0 })], Value.string x, undef, undef, undef, undef, undef, undef, undef, undef, undef, undef, undef, undef, undef, undef, undef, undef, undef, undef, undef, undef, undef, undef, undef, undef, undef, undef, undef, undef, undef], defers := [] }) ?assign ?body ?done
  case it =>
    intro l J W hJ hY hb hj
    exact linesIt 2 (by decide) l (w1.heap.size + 1 + 1) J (recsB rs) hJ hY s HS.out hz (recsB_line HV.out) W (hbx.below hb) hj
  case hI =>
    intro pre W W' h hb
    exact h.but hb (fun j e => by omega) hlb hb2
  case assign =>
    intro l x W K hK
    gi_wp2
    exact hK
  case body =>
    intro l pre x rest W hls hsz hI
    obtain ⟨p, r, q, e1, rfl, e3⟩ := recsB_at hls
    have hrb := HV.out p r q e1
    obtain ⟨g0, _, g1, g2, g3, g4, g5⟩ := raiseB_ok hrb
    have hv4 := itoa_len g4 g5
    have HI := Lib.hid hI
    obtain ⟨r1, r2⟩ := r
    simp only at g1 g2 g3 g4 g5 hv4 hrb g0
    have en := fun k w => err_neq k w
    have gn := fun o k w => err_guard_neq o k w
    have ek : rs.take pre.length = p := by rw [e3, e1, List.take_left]
    have ek2 : rs.take (p.length + 1) = p ++ [(r1, r2)] := by
      rw [e1, show p ++ (r1, r2) :: q = (p ++ [(r1, r2)]) ++ q by simp, show p.length + 1 = (p ++ [(r1, r2)]).length by simp, List.take_left]
    have el : pre.length + 1 ≤ rs.length := by rw [e1, e3]; simp
    have HT := Lib.hid (fun w => trim_any r1 r2 w g2 hv4)
    have HCu := Lib.hid (fun w hm => cutAny_rec r1 r2 w m hm g3 g2 hv4)
    have HA := Lib.hid (fun w => atoiAny_rec r2 w g4 g5)
    have HR := Lib.hid (fun w n h hn => cRaise_any b n (raisedL p) r1 r2 w h (by omega) hn (raisedL_len p))
    rw [hrb, g0] at HR
    have EK := Lib.hid ek
    have EK2 := Lib.hid ek2
    have E3 := Lib.hid e3
    have hMW := (hI.bel.cell (World.block_lt_of_cell? w _ HM.out)).trans HM.out
    obtain ⟨X, hX⟩ : ∃ X, recB (r1, r2) = X := ⟨_, rfl⟩
    rw [show recS r1 r2 = X from hX] at HT
    rw [hX]
    have HI := Lib.hid hI
    have HL := Lib.hid (by rw [List.length_append, E3.out]; rfl : (pre ++ [X]).length = p.length + 1)
    clear hls hI hX g0 g1 g2 g3 g4 g5 hv4 hrb e1 e3 ek ek2
    gi_wp2
    refine ⟨trivial, ?_⟩
    refine (CallsIn.inRound l (callsIn_wide.2 (HT.out _))).mono ?_
    rintro e w' ⟨rfl, rfl⟩
    gi_wp2
    refine ⟨trivial, ?_⟩
    refine (CallsIn.inRound l (callsIn_wide.2 (HCu.out _ hMW))).mono ?_
    rintro e w' ⟨rfl, nq, rfl⟩
    gi_wp2
    refine ⟨trivial, ?_⟩
    refine (CallsIn.inRound l (callsIn_wide.2 (HA.out _))).mono ?_
    rintro e w3 ⟨rfl, hb3⟩
    have hb3' : Below w'.heap.size w' w3 := grow_step (grow_drewN (grow_refl _) nq) hb3
    have HI3 : Hid (RedoI w w3 w1.heap.size b rs pre.length) := Lib.hid (HI.out.but (below_but hb3' (fun _ => False)) (fun j e => e.elim) hlb hb2)
    obtain ⟨n, hn3, hC3⟩ := HI3.out.cnt
    rw [EK.out] at hC3
    have HC3 := Lib.hid hC3
    have cB := HI3.out.c.cell
    have lB := HI3.out.c.lt
    clear hC3 hMW hb3
    gi_wp2
    refine ⟨trivial, ?_⟩
    refine (CallsIn.inRound l (callsIn_wide.2 (HR.out _ n HC3.out (by omega)))).mono ?_
    rintro e w4 ⟨rfl, ⟨n4, hn4, hC4⟩, hk4⟩
    have HC4 := Lib.hid hC4
    have hm4 := HI3.out.many.but hk4 (by omega)
    have cM := hm4.cell
    have lM := hm4.lt
    have fM := hm4.frozen
    have HM4 := Lib.hid hm4
    have hc4 := Lib.hid (HI3.out.c.but hk4 (by omega))
    have h04 := Lib.hid (HI3.out.r0.but hk4 (by omega))
    have h14 := Lib.hid (HI3.out.r1.but hk4 (by omega))
    have h24 := Lib.hid (HI3.out.r2.but hk4 (by omega))
    have hw4 : Below w.heap.size w w4 := HI3.out.bel.trans (hk4.below HI3.out.bel.size (fun j e => by omega))
    clear hm4 hC4 cB lB
    gi_wp2
    have hs : But (fun k => k = w1.heap.size + 1) w4 (w4.setCell ⟨w1.heap.size + 1, 0, none⟩ (.int .i64 ((pre.length : Int) + 1))) := (But.refl (fun k => k = w1.heap.size + 1) w4).setCell (p := ⟨w1.heap.size + 1, 0, none⟩) (Or.inl rfl) _
    have hB : But (fun k => k = b ∨ k = w1.heap.size + 1) w' (w4.setCell ⟨w1.heap.size + 1, 0, none⟩ (.int .i64 ((pre.length : Int) + 1))) :=
      ((below_but hb3' (fun k => k = b ∨ k = w1.heap.size + 1)).trans (hk4.mono (S' := fun k => k = b ∨ k = w1.heap.size + 1) (fun _ _ h => Or.inl h)) (fun _ _ h => h)).trans hs (fun _ _ h => Or.inr h)
    have hm5 := HM4.out.set_ 0 (.int .i64 ((pre.length : Int) + 1))
    refine ⟨hB, ?_⟩
    show RedoI w _ w1.heap.size b rs (pre ++ [X]).length
    rw [HL.out]
    refine ⟨⟨n4, by have := E3.out; omega, by rw [EK2.out, raisedL_snoc]; exact HC4.out.but hs (by omega) (by omega)⟩, hc4.out.but hs (by omega), ?_, h04.out.but hs (by omega), h14.out.but hs (by omega), h24.out.but hs (by omega), hw4.trans (hs.below hw4.size (fun j e => by omega))⟩
    have e : ((p.length + 1 : Nat) : Int) = (pre.length : Int) + 1 := by have := E3.out; omega
    rw [e]
    exact hm5
  case done =>
    intro W hI hK
    have e0 : (recsB rs).length = rs.length := List.length_map ..
    rw [e0] at hI
    have HI := Lib.hid hI
    have cB := hI.c.cell
    have lB := hI.c.lt
    have cM := hI.many.cell
    have lM := hI.many.lt
    have c0 := hI.r0.cell
    have l0 := hI.r0.lt
    have f0 := hI.r0.frozen
    have c1 := hI.r1.cell
    have l1 := hI.r1.lt
    have f1 := hI.r1.frozen
    have c2 := hI.r2.cell
    have l2 := hI.r2.lt
    have f2 := hI.r2.frozen
    have HK := Lib.hid hK
    clear hI hK
    gi_wp2
    gi_region
    all_goals gi_wp2
    have hx0 : But (fun k => k = w.heap.size ∨ k = w.heap.size + 1 ∨ k = w.heap.size + 1 + 1) W (((W.setCell ⟨w.heap.size, 0, none⟩ (.pointer (some ⟨b + 1, 0, none⟩))).setCell ⟨w.heap.size + 1, 0, none⟩ (.int .i64 (rs.length : Int))).setCell ⟨w.heap.size + 1 + 1, 0, none⟩ .nilIface).drew :=
      ((((But.refl (fun k => k = w.heap.size ∨ k = w.heap.size + 1 ∨ k = w.heap.size + 1 + 1) W).setCell (p := ⟨w.heap.size, 0, none⟩) (Or.inl (Or.inl rfl)) _).setCell (p := ⟨w.heap.size + 1, 0, none⟩) (Or.inl (Or.inr (Or.inl rfl))) _).setCell (p := ⟨w.heap.size + 1 + 1, 0, none⟩) (Or.inl (Or.inr (Or.inr rfl))) _).drew
    have b0 := ((HI.out.r0.set_ 0 (.pointer (some ⟨b + 1, 0, none⟩))).far (p := ⟨w.heap.size + 1, 0, none⟩) (show w.heap.size ≠ w.heap.size + 1 by omega) (.int .i64 (rs.length : Int))).far (p := ⟨w.heap.size + 1 + 1, 0, none⟩) (show w.heap.size ≠ w.heap.size + 1 + 1 by omega) .nilIface
    have b1 := ((HI.out.r1.far (p := ⟨w.heap.size, 0, none⟩) (show w.heap.size + 1 ≠ w.heap.size by omega) (.pointer (some ⟨b + 1, 0, none⟩))).set_ 0 (.int .i64 (rs.length : Int))).far (p := ⟨w.heap.size + 1 + 1, 0, none⟩) (show w.heap.size + 1 ≠ w.heap.size + 1 + 1 by omega) .nilIface
    have b2 := ((HI.out.r2.far (p := ⟨w.heap.size, 0, none⟩) (show w.heap.size + 1 + 1 ≠ w.heap.size by omega) (.pointer (some ⟨b + 1, 0, none⟩))).far (p := ⟨w.heap.size + 1, 0, none⟩) (show w.heap.size + 1 + 1 ≠ w.heap.size + 1 by omega) (.int .i64 (rs.length : Int))).set_ 0 .nilIface
    obtain ⟨W9, hW9⟩ : ∃ W9, (((W.setCell ⟨w.heap.size, 0, none⟩ (.pointer (some ⟨b + 1, 0, none⟩))).setCell ⟨w.heap.size + 1, 0, none⟩ (.int .i64 (rs.length : Int))).setCell ⟨w.heap.size + 1 + 1, 0, none⟩ .nilIface).drew = W9 := ⟨_, rfl⟩
    have b0' : Box W9 w.heap.size 58 #[.pointer (some ⟨b + 1, 0, none⟩)] := by rw [← hW9]; exact b0
    have b1' : Box W9 (w.heap.size + 1) 3 #[.int .i64 (rs.length : Int)] := by rw [← hW9]; exact b1
    have b2' : Box W9 (w.heap.size + 1 + 1) 27 #[.nilIface] := by rw [← hW9]; exact b2
    rw [hW9] at hx0 ⊢
    have hlk : WL.heap.size < W.heap.size := (Array.getElem?_eq_some_iff.1 HK.out).1
    have hK9 : W9.heap[WL.heap.size]? = some (.deferred (some [])) := (hx0.block _ hlk (by omega)).trans HK.out
    have hd : But (fun k => k = WL.heap.size) W9 (W9.putObj WL.heap.size (.deferred none)) := (But.refl (fun k => k = WL.heap.size) W9).putObj (Or.inl rfl) _
    refine ⟨by simp, .inl ⟨_, _, rfl, run_takeDeferred hK9, ?_⟩⟩
    have hC9 : ∃ n, n ≤ rs.length ∧ CE (W9.putObj WL.heap.size (.deferred none)) b n (raisedL rs) := by
      obtain ⟨n, hn', hC⟩ := HI.out.cnt
      rw [List.take_length] at hC
      exact ⟨n, hn', (hC.but hx0 (by omega) (by omega)).but hd (by omega) (by omega)⟩
    obtain ⟨n, hn9, hC9⟩ := hC9
    refine ⟨_, results_cell3 (P := Tryz.prog) (fn := Tryz.f27) rfl rfl rfl rfl (b0'.but hd (by omega)) (b1'.but hd (by omega)) (b2'.but hd (by omega)) (by kernel_rfl) (by kernel_rfl) (by kernel_rfl), b, n, rfl, hC9, hn9, by have := HBW.out; omega, ?_, ?_⟩
    · have h1 := hd.size
      have h2 := hx0.size
      omega
    · exact HI.out.bel.trans ((hx0.below HI.out.bel.size (fun j e => by omega)).trans (hd.below (by have := HI.out.bel.size; have := hx0.size; omega) (fun j e => by omega)))

end Go.Proofs.YtkipjloapdolbaaGreatDoor
