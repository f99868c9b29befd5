/- The law of a range over a function whose iterator keeps its state in a cell of its own, and whose body goes through to its end each time. strings.Builder: made in the call, written to, with its footprint. run.Run: a session, answered line by line. -/
import Derived.Test.YtegiffdlfpdbkaaGreatDoorRows
import Derived.Test.YtegiffdlfpdbkaaGreatDoorNum
import Derived.Test.YtegiffdlfpdbkaaGreatDoorBase
import Derived.Test.YtegiffdlfpdbkaaGreatDoorFoot
import Derived.RangeFuncNested
import Derived.RangeFuncBound
import Derived.RangeFuncCalls
import Derived.RangeFuncLeaves
import Derived.RangeFuncKeeps
import Derived.ControlIn
import Derived.Test.YtegiffdlfpdbkaaGreatDoorApp
import Derived.WalkKit
import Derived.WalkSpells
import Derived.WalkLawsBesides
import Derived.Lib.Hide
import Derived.Lib.Builder
import Derived.Lib.AppendStr
import Derived.Lib.UnsafeStr
import Derived.Deep.DeepCutAuto
import Derived.Test.YtegiffdlfpdbkaaGreatDoorImg
import Derived.Test.YtegiffdlfpdbkaaGreatDoorCount
import Derived.Test.YtegiffdlfpdbkaaGreatDoorCntP
import Derived.Test.YtegiffdlfpdbkaaGreatDoorCntC
import Derived.Test.YtegiffdlfpdbkaaGreatDoorParse
import Derived.Test.YtegiffdlfpdbkaaGreatDoorLines
import Derived.Test.YtegiffdlfpdbkaaGreatDoorLinesG
import Derived.Test.YtegiffdlfpdbkaaGreatDoorRunP
import Derived.Test.YtegiffdlfpdbkaaGreatDoorRunL
import Derived.Test.YtegiffdlfpdbkaaGreatDoorRunS
import Derived.Test.YtegiffdlfpdbkaaGreatDoorRunT
import Derived.Test.YtegiffdlfpdbkaaGreatDoorRun1
import Derived.Test.YtegiffdlfpdbkaaGreatDoorRun2
import Derived.Test.YtegiffdlfpdbkaaGreatDoorRun3
import Derived.Test.YtegiffdlfpdbkaaGreatDoorRun9
import Derived.Test.YtegiffdlfpdbkaaGreatDoorTold
import Derived.Test.YtegiffdlfpdbkaaGreatDoorShelf
import Derived.Shelf.Abstract
import Derived.Shelf.RegionOpen
import Derived.OwnWalkIn
import Derived.TacticsInMore
import Derived.LoopNIn
import Derived.LoopIn
namespace Go.Proofs.YtegiffdlfpdbkaaGreatDoor
open Go.RowKit
set_option maxRecDepth 100000
set_option linter.unusedVariables false

theorem But.putObj {S : Nat → Prop} {a w : World} (h : But S a w) {r : Nat} (hr : S r ∨ a.heap.size ≤ r) (o : Obj) : But S a (w.putObj r o) :=
  ⟨h.os, h.tape, h.output, Nat.le_trans h.size (by simp), fun k hk hn => (World.putObj_heap_other (fun e => by
    subst e
    rcases hr with hr | hr
    · exact hn hr
    · omega)).trans (h.block k hk hn)⟩
/-- How the body of a round may be left: at its end alone. -/
def roundEnd (T : Nat → Prop) (I : World → Prop) (W : World) : Exit → Act → World → Prop
  | .normal, _, W' => But T W W' ∧ I W'
  | _, _, _ => False

theorem wp_range_own {P : Program} {g : Operand} {ps : Array Tmp} {assign body : Code} {Q : Exit → Act → World → Prop} {a : Act} {w : World} {gf : Nat} {lb : Array Value}
    (hg : a.eval g = .func (.func gf) #[] lb) (eg : ∀ args w, (callFunc gf args).run P w = .ok (.enter gf args) w)
    {sb : Nat} {t : TypeId} (hsb : sb < w.heap.size) {ls : List ByteArray}
    (it : ∀ (l : Nat) (J : List ByteArray → World → Prop) (W : World), (∀ pre W W', J pre W → But (fun k => k = sb) W W' → J pre W') →
      (∀ pre x rest W, ls = pre ++ x :: rest → J pre W → YieldAt Fence.wide 1 P l #[.string x] W fun e W' => e = .returned (.bool true) ∧ J (pre ++ [x]) W' ∧ (∀ cs, Box W sb t cs → Box W' sb t cs)) →
      Below w.heap.size w W → J [] W → CallsIn Fence.wide 2 P gf (#[.func (.yield l) #[] #[]] ++ lb) W fun e W' => (∃ v, e = .returned v) ∧ J ls W')
    (hps : ps.size = 1) (T : Nat → Prop) (hT : ¬ T sb ∧ ¬ T w.heap.size ∧ ¬ T (w.heap.size + 1))
    (I : List ByteArray → World → Prop) (hI : ∀ pre W W', I pre W → But (fun k => k = sb ∨ k = w.heap.size ∨ k = w.heap.size + 1) W W' → I pre W') (h0 : I [] w) (a₁ : ByteArray → Act)
    (hassign : ∀ (l : Nat) (x : ByteArray) (W : World) (K : Act → World → Prop), K (a₁ x) W →
      assign.wpIn (Fence.wide.inRound l) 1 P (Exit.then K (fun _ _ _ => False)) { tmps := (ps.zip #[.string x]).foldl (fun t (p, v) => t.setIfInBounds p v) a.tmps, defers := [] } W)
    (hbody : ∀ (l : Nat) (pre : List ByteArray) (x : ByteArray) (rest : List ByteArray) (W : World), ls = pre ++ x :: rest → w.heap.size + 1 < W.heap.size → I pre W → body.wpIn (Fence.wide.inRound l) 1 P (roundEnd T (I (pre ++ [x])) W) (a₁ x) W)
    (hdone : ∀ (W : World), I ls W → W.heap[w.heap.size]? = some (.deferred (some [])) → Q .normal { a with defers := { target := .collected w.heap.size, args := #[] } :: a.defers } W) :
    (Code.rangeFunc g ps assign body).wpIn Fence.wide 3 P Q a w := by
  refine wpIn_rangeFunc ?_
  intro fn hfn
  obtain ⟨rec, hrec⟩ : ∃ rec : LoopState → Option Code → Loop, rec = fun st pe => { state := st, pending := pe, fn, tmps := a.tmps, params := ps, assign, body, defers := w.heap.size } := ⟨_, rfl⟩
  obtain ⟨W1, hW1⟩ : ∃ W1, (w.alloc (.deferred (some []))).alloc (.loop (rec .ready none)) = W1 := ⟨_, rfl⟩
  have hL1 : W1.heap[w.heap.size + 1]? = some (.loop (rec .ready none)) := by
    rw [← hW1]; have := World.alloc_heap_new (w.alloc (.deferred (some []))) (.loop (rec .ready none)); rwa [World.size_alloc] at this
  have hK1 : W1.heap[w.heap.size]? = some (.deferred (some [])) := by
    rw [← hW1]; exact (Below.heap_alloc _ _ _ (by simp)).trans (World.alloc_heap_new w _)
  have hI1 : I [] W1 := by rw [← hW1]; exact hI _ _ _ h0 (((But.refl _ w).alloc _).alloc _)
  have hb1 : Below w.heap.size w W1 := by
    rw [← hW1]; exact ((Below.refl _ w).alloc (Nat.le_refl _) _).alloc (by simp) _
  refine ⟨w.heap.size + 1, [{ target := .collected w.heap.size, args := #[] }], W1, { target := .fn (.func gf) lb, args := #[.func (.yield (w.heap.size + 1)) #[] #[]] }, W1, gf,
    #[.func (.yield (w.heap.size + 1)) #[] #[]] ++ lb, W1, ?_, ?_, ?_, ?_, fun _ => by decide, ?_⟩
  · rw [← hW1, hrec]; exact run_enterLoop_outer _ _ _ _ _
  · simp only [resolve, hg]
    simp [go_sem]
  · intro f' hf'; trivial
  · simp [invoke, go_sem, eg]
  · have keep : ∀ {W W' : World} {S : Nat → Prop} {k : Nat} {o : Obj}, W.heap[k]? = some o → But S W W' → ¬ S k → W'.heap[k]? = some o := fun hk hb hn => (hb.block _ (Array.getElem?_eq_some_iff.1 hk).1 hn).trans hk
    refine (it (w.heap.size + 1)
      (fun pre W => I pre W ∧ W.heap[w.heap.size + 1]? = some (.loop (rec .ready none)) ∧ W.heap[w.heap.size]? = some (.deferred (some []))) W1
      (fun pre W W' hs hb => ⟨hI _ _ _ hs.1 (hb.mono (fun _ _ h => Or.inl h)), keep hs.2.1 hb (by omega), keep hs.2.2 hb (by omega)⟩)
      ?_ hb1 ⟨hI1, hL1, hK1⟩).mono ?_
    · rintro pre x rest W hls ⟨hi, hl, hk⟩
      have hlt : w.heap.size + 1 < W.heap.size := (Array.getElem?_eq_some_iff.1 hl).1
      have hy := run_yield (P := P) (args := #[.string x]) hl (by rw [hrec]; exact hps.symm)
      rw [hrec] at hy
      refine ⟨fn, _, assign, body, hy, roundIn_of_wpIn hfn (hassign _ x W _ ⟨_, run_beginRound hl (by rw [hrec]), ?_⟩)⟩
      obtain ⟨W2, hW2⟩ : ∃ W2, W.putObj (w.heap.size + 1) (.loop { rec .ready none with state := .busy }) = W2 := ⟨_, rfl⟩
      have hl2 : W2.heap[w.heap.size + 1]? = some (.loop { rec .ready none with state := .busy }) := by rw [← hW2]; exact World.putObj_heap_same hlt
      have hb2 : But (fun k => k = sb ∨ k = w.heap.size ∨ k = w.heap.size + 1) W W2 := by rw [← hW2]; exact (But.refl _ W).putObj (Or.inl (Or.inr (Or.inr rfl))) _
      have hb2' : But (fun k => k = w.heap.size + 1) W W2 := by rw [← hW2]; exact (But.refl (fun k => k = w.heap.size + 1) W).putObj (Or.inl rfl) _
      have hk2 : W2.heap[w.heap.size]? = some (.deferred (some [])) := keep hk hb2' (by omega)
      have hz2 : w.heap.size + 1 < W2.heap.size := (Array.getElem?_eq_some_iff.1 hl2).1
      rw [hW2]
      refine wpIn_mono (hbody _ pre x rest W2 hls hz2 (hI _ _ _ hi hb2)) ?_
      rintro e a3 W3 hp
      cases e with
      | normal =>
        obtain ⟨hb3, hi3⟩ := hp
        have hl3 : W3.heap[w.heap.size + 1]? = some (.loop { rec .ready none with state := .busy }) := keep hl2 hb3 hT.2.2
        have hk3 : W3.heap[w.heap.size]? = some (.deferred (some [])) := keep hk2 hb3 hT.2.1
        have hr := run_endRound (P := P) none hl3
        refine ⟨_, _, hr, rfl, ⟨hI _ _ _ hi3 ((But.refl _ W3).putObj (Or.inl (Or.inr (Or.inr rfl))) _), ?_, ?_⟩, ?_⟩
        · rw [hrec]
          exact World.putObj_heap_same (Array.getElem?_eq_some_iff.1 hl3).1
        · exact (World.putObj_heap_other (by omega)).trans hk3
        · intro cs hc
          have h1 : Box W2 sb t cs := Box.but hc hb2' (by omega)
          have h2 : Box W3 sb t cs := Box.but h1 hb3 hT.1
          exact Box.but h2 ((But.refl (fun k => k = w.heap.size + 1) W3).putObj (Or.inl rfl) _) (by omega)
      | ret => exact hp.elim
      | exit id => exact hp.elim
      | goto t => exact hp.elim
      | panic ch => exact hp.elim
      | outgrown => exact hp.elim
    · rintro e W2 ⟨⟨v, rfl⟩, hi, hl, hk⟩
      exact ⟨none, _, by have := run_endLoop (P := P) hl (by rw [hrec]; simp); rw [hrec] at this; exact this, hdone _ (hI _ _ _ hi ((But.refl _ W2).putObj (Or.inl (Or.inr (Or.inr rfl))) _)) ((World.putObj_heap_other (by omega)).trans hk)⟩

end Go.Proofs.YtegiffdlfpdbkaaGreatDoor

namespace Go.Proofs.YtegiffdlfpdbkaaGreatDoor
open Go.RowKit
set_option maxRecDepth 100000
set_option linter.unusedVariables false
set_option linter.unusedSimpArgs false

/-- A builder at b, its bytes in a row from B on. -/
def BldAt (w : World) (b B : Nat) (s : List UInt8) : Prop :=
  ∃ p v, Box w b 45 #[p, v] ∧ (p = .pointer none ∨ p = .pointer (some ⟨b, 0, none⟩)) ∧ w.ownsRow B 5 1 v s.length (Lib.byteCells s) ∧ b < B
theorem BldAt.new (w : World) (B : Nat) (h : w.heap.size < B) : BldAt (w.alloc (.cells #[.pointer none, .slice none 0 0] 45)) w.heap.size B [] :=
  ⟨_, _, Box.new _ _ _, Or.inl rfl, World.ownsRow_nil _ _ _ _, h⟩
theorem BldAt.but {S : Nat → Prop} {w w' : World} {b B : Nat} {s : List UInt8} (h : BldAt w b B s) (k : But S w w') (h1 : ¬ S b) (h2 : ∀ j, B ≤ j → j < w.heap.size → ¬ S j) : BldAt w' b B s := by
  obtain ⟨p, v, a1, a2, a3, a4⟩ := h
  refine ⟨p, v, a1.but k h1, a2, ⟨a3.1, ?_⟩, a4⟩
  rcases a3.2 with hn | ⟨g, cap, cur, rfl, hb, hgg, r⟩
  · exact Or.inl hn
  · refine Or.inr ⟨g, cap, cur, rfl, hb, ?_, r⟩
    have hlt := (Array.getElem?_eq_some_iff.1 hgg).1
    exact (k.block g hlt (h2 g hb hlt)).trans hgg
theorem BldAt.below {w w' : World} {b B : Nat} {s : List UInt8} (h : BldAt w b B s) (hb : Below w.heap.size w w') : BldAt w' b B s := h.but (below_but hb (fun _ => False)) (fun h => h) (fun _ _ _ h => h)
theorem BldAt.lt {w : World} {b B : Nat} {s : List UInt8} (h : BldAt w b B s) : b < w.heap.size := by
  obtain ⟨p, v, a1, _⟩ := h
  exact a1.lt

theorem infoByteB : (Tryz.prog.info? 5).map (fun i => (i.zero, i.size, i.bytes)) = some (some (.int .u8 0), 1, 1) := by kernel_rfl
theorem infoBld : (Tryz.prog.info? 45).map (·.size) = some 2 := by kernel_rfl
theorem liesBld : liesAt Tryz.prog Tryz.prog.depth 45 (2 / Tryz.prog.cellsOf 45) 0 45 1 = true := by kernel_rfl
theorem eql_nilB (w : World) : (binOp .eql 42 (.pointer none) (.pointer none)).run Tryz.prog w = .ok (.bool true) w := by kernel_rfl
theorem eql_someB (a : Addr) (w : World) : (binOp .eql 42 (.pointer (some a)) (.pointer none)).run Tryz.prog w = .ok (.bool false) w := by kernel_rfl

set_option maxHeartbeats 1000000 in
theorem bCopyCheck_used (b : Nat) (v : Value) (w : World) (h : Box w b 45 #[.pointer (some ⟨b, 0, none⟩), v]) :
    Calls Tryz.prog 32 #[.pointer (some ⟨b, 0, none⟩)] w fun e w' => e = .returned (.tuple #[]) ∧ w' = w := by
  obtain ⟨j, hj, hjs⟩ := Option.map_eq_some_iff.1 infoBld
  have c0 : w.cell? ⟨b, 0, none⟩ = some (.pointer (some ⟨b, 0, none⟩)) := by rw [h.cell 0]; rfl
  have hne := Lib.run_neq_ptr_same (P := Tryz.prog) w (⟨b, 0, none⟩ : Addr) Tryz.underlying42 hj
  clear h hj hjs
  go_enter Tryz.func32, Tryz.ntmps32
  go_wp2
  try rw [hne]
  go_wp2
  go_end0
  exact ⟨rfl, rfl⟩

set_option maxHeartbeats 1000000 in
theorem bCopyCheck_fresh (b : Nat) (v : Value) (w : World) (h : Box w b 45 #[.pointer none, v]) :
    Calls Tryz.prog 32 #[.pointer (some ⟨b, 0, none⟩)] w fun e w' => e = .returned (.tuple #[]) ∧ w' = w.setCell ⟨b, 0, none⟩ (.pointer (some ⟨b, 0, none⟩)) := by
  obtain ⟨j, hj, hjs⟩ := Option.map_eq_some_iff.1 infoBld
  have cB := h.cell
  have lB := h.lt
  have fB := h.frozen
  have hsh : w.shape? b = some (45, 2) := by have h1 : w.heap[b]? = _ := h; simp [World.shape?, h1]
  have hto := Lib.run_to_unsafe (P := Tryz.prog) w ⟨b, 0, none⟩ Tryz.underlying42 Tryz.underlying89 hj (by rw [hjs]; decide) hsh (Nat.zero_lt_succ 1)
  have hfrom := Lib.run_from_unsafe (P := Tryz.prog) w ⟨b, 0, none⟩ Tryz.underlying89 Tryz.underlying42 hj hsh liesBld
  have hex := @run_callFunc_extern Tryz.prog 44 _ Extern.AbiNoEscape.same Tryz.func44 (by kernel_rfl) (by kernel_rfl) (by kernel_rfl) (by kernel_rfl)
  have hno := fun x => Lib.run_noEscape (P := Tryz.prog) w x
  have hne := fun w => Lib.run_neq_ptr_same (P := Tryz.prog) w (⟨b, 0, none⟩ : Addr) Tryz.underlying42 hj
  clear hsh hj hjs h
  go_enter Tryz.func32, Tryz.ntmps32
  go_wp2
  go_end0
  exact ⟨rfl, rfl⟩

theorem bCopyCheck_any (b : Nat) (p v : Value) (w : World) (h : Box w b 45 #[p, v]) (hp : p = .pointer none ∨ p = .pointer (some ⟨b, 0, none⟩)) :
    Calls Tryz.prog 32 #[.pointer (some ⟨b, 0, none⟩)] w fun e w' => e = .returned (.tuple #[]) ∧ Box w' b 45 #[.pointer (some ⟨b, 0, none⟩), v] ∧ But (fun k => k = b) w w' := by
  rcases hp with rfl | rfl
  · refine (bCopyCheck_fresh b v w h).mono ?_
    rintro e w' ⟨rfl, rfl⟩
    exact ⟨rfl, h.set_ 0 _, (But.refl (fun k => k = b) w).setCell (p := ⟨b, 0, none⟩) (Or.inl rfl) _⟩
  · refine (bCopyCheck_used b v w h).mono ?_
    rintro e w' ⟨rfl, rfl⟩
    exact ⟨rfl, h, But.refl _ _⟩

set_option maxHeartbeats 2000000 in
theorem bWrite_any (b B : Nat) (s : List UInt8) (x : ByteArray) (w : World) (h : BldAt w b B s) (hl : s.length + x.size ≤ 140737488355328) (hB : B ≤ w.heap.size) :
    Calls Tryz.prog 12 #[.pointer (some ⟨b, 0, none⟩), .string x] w fun e w' => e = .returned (.tuple #[.int .i64 x.size, .nilIface]) ∧ BldAt w' b B (s ++ x.data.toList) ∧ But (fun k => k = b ∨ B ≤ k) w w' := by
  obtain ⟨i0, hi, hz0, hz1, hz2⟩ := info_parts infoByteB
  obtain ⟨p, v, hb, hp, hown, hbB⟩ := h
  have HC := Lib.hid (bCopyCheck_any b p v w hb hp)
  have HOW := Lib.hid hown
  clear hb hp hown
  go_enter Tryz.func12, Tryz.ntmps12
  go_wp2_with fail
  refine HC.out.mono ?_
  rintro e w1 ⟨rfl, hb1, hk1⟩
  have hown1 : w1.ownsRow B 5 1 v s.length (Lib.byteCells s) := by
    refine ⟨HOW.out.1, ?_⟩
    rcases HOW.out.2 with hn | ⟨g, cap, cur, rfl, hg, hgg, r⟩
    · exact Or.inl hn
    · exact Or.inr ⟨g, cap, cur, rfl, hg, (hk1.block g (Array.getElem?_eq_some_iff.1 hgg).1 (by omega)).trans hgg, r⟩
  have HO1 := Lib.hid hown1
  have HK1 := Lib.hid hk1
  have hs1 := hk1.size
  have HB1 := Lib.hid hb1
  have cB := hb1.cell
  have lB := hb1.lt
  clear hown1 hk1 hb1
  go_wp2_with (at_builtin; refine Lib.wpList_append_own_string _ rfl _ _ 43 9 rfl B 5 i0 Tryz.underlying43 Tryz.underlying9 hi hz0 hz1 hz2 _ _ _ rfl HO1.out x rfl ?c3 ?c4 ?c5 ?_)
  case c3 => unfold maxLen; omega
  case c4 => omega
  case c5 => omega
  intro v' w2 hown' hgrow _
  have hvb : v.ownBlock ≠ some b := fun e => by
    rcases HO1.out.2 with ⟨rfl, _⟩ | ⟨g, cap, cur, rfl, hg, _⟩
    · cases e
    · have e2 : g = b := by injection e
      omega
  have hk2 : But (fun k => k = b ∨ B ≤ k) w1 w2 := ⟨hgrow.os, hgrow.tape, hgrow.output, hgrow.size, fun k hk hn => hgrow.block k hk (fun e => by
    rcases HO1.out.2 with ⟨rfl, _⟩ | ⟨g, cap, cur, rfl, hg, _⟩
    · cases e
    · have e2 : k = g := by injection e
      exact hn (Or.inr (by omega)))⟩
  have hb2 : Box w2 b 45 #[.pointer (some ⟨b, 0, none⟩), v] := (hgrow.block b HB1.out.lt (fun e => hvb e.symm)).trans HB1.out
  have HB2 := Lib.hid hb2
  have HK2 := Lib.hid hk2
  have cB2 := hb2.cell
  have lB2 := hb2.lt
  have fB2 := hb2.frozen
  have HOV := Lib.hid hown'
  obtain ⟨ao, n', cap, rfl⟩ : ∃ ao n' cap, v' = .slice ao n' cap := by
    rcases hown'.2 with ⟨hv, _⟩ | ⟨g, cap, cur, hv, _⟩
    · exact ⟨_, _, _, hv⟩
    · exact ⟨_, _, _, hv⟩
  clear cB lB hgrow hown' hk2 hb2
  go_wp2_with fail
  go_ret2
  have hb3 := HB2.out.set_ 1 (.slice ao n' cap)
  refine ⟨rfl, ⟨_, _, hb3, Or.inr rfl, ?_, hbB⟩, ?_⟩
  · have e1 : (s ++ x.data.toList).length = s.length + x.size := by rw [List.length_append]; simp
    have e2 : Lib.byteCells (s ++ x.data.toList) = Lib.byteCells s ++ Lib.strCells x := by unfold Lib.byteCells Lib.strCells; rw [List.map_append]
    rw [e1, e2]
    refine ⟨HOV.out.1, ?_⟩
    rcases HOV.out.2 with hn | ⟨g, cap', cur, hv, hg, hgg, r⟩
    · exact Or.inl hn
    · exact Or.inr ⟨g, cap', cur, hv, hg, (Below.heap_setCell _ _ _ _ (by show g ≠ b; omega)).trans hgg, r⟩
  · exact ((HK1.out.mono (S' := fun k => k = b ∨ B ≤ k) (fun _ _ h => Or.inl h)).trans HK2.out (fun _ _ h => h)).setCell (p := ⟨b, 1, none⟩) (Or.inl (Or.inl rfl)) _

theorem freeze_but (w : World) (g n : Nat) : But (fun k => k = g) w (w.freeze ⟨g, 0, none⟩ n) := by
  unfold World.freeze
  split
  · exact But.refl _ w
  · exact ⟨rfl, rfl, rfl, by simp, fun k hk hn => by
      simp only [Array.getElem?_modify]
      rw [if_neg (fun e => hn e.symm)]⟩
set_option maxHeartbeats 2000000 in
theorem bString_any (b B : Nat) (l : List UInt8) (w : World) (h : BldAt w b B l) (h0 : l ≠ []) :
    Calls Tryz.prog 15 #[.pointer (some ⟨b, 0, none⟩)] w fun e w' => e = .returned (.string ⟨l.toArray⟩) ∧ But (fun k => B ≤ k) w w' := by
  obtain ⟨p, v, hbx, _, hown, hbB⟩ := h
  have hl0 : l.length ≠ 0 := by simpa using h0
  obtain ⟨g, cap, cur, rfl, hbg, hg, hnc, hcm, hcs, htake⟩ : ∃ g cap cur, v = .slice (some ⟨g, 0, none⟩) l.length cap ∧ B ≤ g ∧ w.heap[g]? = some (.cells cur 5 (0, 0)) ∧ l.length ≤ cap ∧ cap ≤ maxLen ∧ cur.size = cap * 1 ∧ cur.toList.take (l.length * 1) = Lib.byteCells l := by
    rcases hown.2 with ⟨_, hz⟩ | ⟨g, cap, cur, hv, r⟩
    · exact absurd hz hl0
    · exact ⟨g, cap, cur, hv, r⟩
  have c1 : w.drew.cell? ⟨b, 1, none⟩ = some (.slice (some ⟨g, 0, none⟩) l.length cap) := by
    rw [show w.drew.cell? ⟨b, 1, none⟩ = w.cell? ⟨b, 1, none⟩ from rfl, hbx.cell 1]; rfl
  have hSD : (Builtin.unsafeSliceData_ #[43] 83 #[.slice (some ⟨g, 0, none⟩) l.length cap]).run Tryz.prog w.drew = .ok (.pointer (some ⟨g, 0, none⟩)) w.drew :=
    Lib.run_unsafeSliceData_row _ _ _ _ _ _ (by omega)
  have hUS : (Builtin.unsafeString_ #[83, 3] 9 #[.pointer (some ⟨g, 0, none⟩), .int .i64 l.length]).run Tryz.prog w.drew = .ok (.string ⟨l.toArray⟩) (w.drew.freeze ⟨g, 0, none⟩ l.length) := by
    refine Lib.run_unsafeString_row w.drew 83 3 9 5 Tryz.underlying83 (by kernel_rfl) g cur.size (by have hg' : w.drew.heap[g]? = some (.cells cur 5 (0, 0)) := hg; simp [World.shape?, hg']) l h0 (by omega) (by unfold maxLen at hcm; omega) ?_
    intro j x hx
    have := hown.cells (g := g) rfl j (.int .u8 x.toNat) (by simp [Lib.byteCells, hx])
    exact this
  have HF := Lib.hid (((But.refl (fun k => B ≤ k) w).drew).trans ((freeze_but w.drew g l.length).mono (S' := fun k => B ≤ k) (fun k _ e => by subst e; exact hbg)) (fun _ _ h => h))
  clear hbx hown hg hnc hcm hcs htake h0 hl0
  go_enter Tryz.func15, Tryz.ntmps15
  go_wp2
  go_region
  all_goals (go_wp2; go_ret; exact ⟨rfl, HF.out⟩)

theorem bString_nil (b : Nat) (p : Value) (w : World) (h : Box w b 45 #[p, .slice none 0 0]) :
    Calls Tryz.prog 15 #[.pointer (some ⟨b, 0, none⟩)] w fun e w' => e = .returned (.string ⟨#[]⟩) ∧ But (fun _ => False) w w' := by
  have c1 : w.drew.cell? ⟨b, 1, none⟩ = some (.slice none 0 0) := by
    rw [show w.drew.cell? ⟨b, 1, none⟩ = w.cell? ⟨b, 1, none⟩ from rfl, h.cell 1]; rfl
  have hSD : (Builtin.unsafeSliceData_ #[43] 83 #[.slice none 0 0]).run Tryz.prog w.drew = .ok (.pointer none) w.drew := rfl
  have hUS : ∀ (W : World) (q : Option Addr), (Builtin.unsafeString_ #[83, 3] 9 #[.pointer q, .int .i64 0]).run Tryz.prog W = .ok (.string .empty) W := fun W q => Lib.run_unsafeString_none W _ _ _ q
  clear h
  go_enter Tryz.func15, Tryz.ntmps15
  go_wp2
  go_region
  all_goals (go_wp2; go_ret; exact ⟨rfl, (But.refl _ w).drew⟩)

end Go.Proofs.YtegiffdlfpdbkaaGreatDoor

namespace Go.Proofs.YtegiffdlfpdbkaaGreatDoor
open Go.RowKit Go.Shelf
set_option maxRecDepth 100000
set_option linter.unusedVariables false
set_option linter.unusedSimpArgs false
attribute [local go_sem] Oper.semAt_some

theorem linesR_any (s : ByteArray) (w : World) :
    Calls Tryz.prog 11 #[.string s] w fun e w' => e = .returned (.func (.func 30) #[] #[.pointer (some ⟨w.heap.size, 0, none⟩)]) ∧ w' = w.alloc (.cells #[.string s] 9) := by
  go_enter Tryz.func11, Tryz.ntmps11
  go_wp2
  go_ret
  exact ⟨rfl, rfl⟩
theorem newR_ce (w : World) :
    Calls Tryz.prog 10 #[] w fun e w' => e = .returned (.pointer (some ⟨w.heap.size + 1, 0, none⟩)) ∧ CE w' w.heap.size 0 [] ∧ Below w.heap.size w w' := by
  refine (countNewE_any w).mono ?_
  rintro e w' ⟨rfl, h, hb⟩
  refine ⟨rfl, ?_, hb⟩
  unfold CE
  have e1 : hasL [] = fun _ => false := by funext t; rfl
  have e2 : ofL [] = fun _ => 0 := by funext t; rfl
  rw [e1, e2]
  exact h

/-- What a round keeps: the desk, the variable that holds it, the builder. -/
structure RunI (w : World) (g : Nat) (pre : List ByteArray) (W : World) : Prop where
  desk : DeskAt W g w.heap.size pre.length (runF (pre.map trimN)).1
  var : Box W (g + 1) 37 #[.pointer (some ⟨g, 0, none⟩)]
  bld : BldAt W (g + 2) (g + 6) (runF (pre.map trimN)).2.data.toList
  nil : pre = [] → Box W (g + 2) 45 #[.pointer none, .slice none 0 0]
  bel : Below w.heap.size w W
theorem RunI.but {S : Nat → Prop} {w W W' : World} {g : Nat} {pre : List ByteArray} (h : RunI w g pre W) (hb : But S W W') (hS : ∀ j, S j → g + 2 < j ∧ j < g + 6) (hg : w.heap.size + 1 < g) : RunI w g pre W' := by
  refine ⟨h.desk.but hb (fun e => by have := hS _ e; omega) (fun e => by have := hS _ e; omega) (fun e => by have := hS _ e; omega), h.var.but hb (fun e => by have := hS _ e; omega), h.bld.but hb (fun e => by have := hS _ e; omega) (fun j hj _ e => by have := hS _ e; omega), fun e => (h.nil e).but hb (fun e => by have := hS _ e; omega), ?_⟩
  exact h.bel.trans (hb.below h.bel.size (fun j e => by have := hS _ e; omega))

set_option maxHeartbeats 1000000 in
theorem run_long (t : ByteArray) (w : World) (hz : 3000 < t.size) :
    Calls Tryz.prog 6 #[.string t] w fun e w' => e = .returned (.string (runT t)) ∧ Below w.heap.size w w' := by
  have HR : Hid (runT t = { data := #[116, 111, 111, 32, 108, 111, 110, 103, 10] }) := Lib.hid (by unfold runT; rw [if_pos hz])
  have h1 : (3000 : Int) < (t.size : Int) := by omega
  refine (callsIn_wide (n := 3)).1 ?_
  refine callsIn_of_wp_marks Tryz.func6 rfl trivial ?_
  simp only [Tryz.ntmps6, List.size_toArray, List.length_cons, List.length_nil, Nat.reduceAdd, Nat.reduceSub, Array.replicate_succ, Array.replicate_zero, List.push_toArray, List.append_toArray, List.nil_append, List.cons_append]
  clear hz
  gi_wp2
  refine ⟨.string { data := #[116, 111, 111, 32, 108, 111, 110, 103, 10] }, ?_, by rw [HR.out], Below.refl _ _⟩
  simp [results, Tryz.results6]

set_option maxHeartbeats 2000000 in
theorem run_short (t : ByteArray) (w : World) (hz : t.size ≤ 3000) (hR : ReadT w) (hU : UnreadT w) (hD : Door w) :
    Calls Tryz.prog 6 #[.string t] w fun e w' => e = .returned (.string (runT t)) ∧ Below w.heap.size w w' := by
  have HR : Hid (runT t = (runF (linesT t)).2) := Lib.hid (by unfold runT; rw [if_neg (by omega)])
  have HRT := Lib.hid hR
  have HUT := Lib.hid hU
  have HDT := Lib.hid hD
  have h1 : ¬ (3000 : Int) < (t.size : Int) := by omega
  clear hR hU hD
  refine (callsIn_wide (n := 3)).1 ?_
  refine callsIn_of_wp_marks Tryz.func6 rfl trivial ?_
  simp only [Tryz.ntmps6, List.size_toArray, List.length_cons, List.length_nil, Nat.reduceAdd, Nat.reduceSub, Array.replicate_succ, Array.replicate_zero, List.push_toArray, List.append_toArray, List.nil_append, List.cons_append]
  gi_wp2
  refine ⟨trivial, ?_⟩
  refine (callsIn_wide.2 (newR_ce _)).mono ?_
  rintro e w1 ⟨rfl, hC, hb1⟩
  have HC := Lib.hid hC
  have HB1 := Lib.hid hb1
  clear hC hb1
  gi_wp2
  refine ⟨trivial, ?_⟩
  refine (callsIn_wide.2 (linesR_any t _)).mono ?_
  rintro e w2 ⟨rfl, rfl⟩
  gi_wp2
  obtain ⟨g, hg⟩ : ∃ g, w1.heap.size = g := ⟨_, rfl⟩
  have hlc : w.heap.size + 1 < w1.heap.size := by obtain ⟨D, h2, _⟩ := HC.out; exact h2.lt
  have hx0 := Box.new w1 41 #[.pointer (some ⟨w.heap.size + 1, 0, none⟩), .int .i64 0, .int .i64 0, .int .i64 0, .int .i64 0, .int .i64 0, .int .i64 0, .int .i64 0, .int .i64 0]
  obtain ⟨W0, hW0⟩ : ∃ W0, w1.alloc (.cells #[.pointer (some ⟨w.heap.size + 1, 0, none⟩), .int .i64 0, .int .i64 0, .int .i64 0, .int .i64 0, .int .i64 0, .int .i64 0, .int .i64 0, .int .i64 0] 41) = W0 := ⟨_, rfl⟩
  have hz0 : W0.heap.size = w1.heap.size + 1 := by rw [← hW0]; simp
  have hk0 : Below w1.heap.size w1 W0 := by rw [← hW0]; exact grow_alloc (grow_refl _) _
  rw [hW0] at hx0 ⊢
  have hx1 := ((Box.new W0 37 #[.pointer (some ⟨w1.heap.size, 0, none⟩)]).alloc_ (.cells #[.pointer none, .slice none 0 0] 45)).alloc_ (.cells #[.string t] 9)
  have hx2 := (Box.new (W0.alloc (.cells #[.pointer (some ⟨w1.heap.size, 0, none⟩)] 37)) 45 #[.pointer none, .slice none 0 0]).alloc_ (.cells #[.string t] 9)
  have hx3 := Box.new ((W0.alloc (.cells #[.pointer (some ⟨w1.heap.size, 0, none⟩)] 37)).alloc (.cells #[.pointer none, .slice none 0 0] 45)) 9 #[.string t]
  have hx0' := ((hx0.alloc_ (.cells #[.pointer (some ⟨w1.heap.size, 0, none⟩)] 37)).alloc_ (.cells #[.pointer none, .slice none 0 0] 45)).alloc_ (.cells #[.string t] 9)
  have hk1 : Below w1.heap.size w1 (((W0.alloc (.cells #[.pointer (some ⟨w1.heap.size, 0, none⟩)] 37)).alloc (.cells #[.pointer none, .slice none 0 0] 45)).alloc (.cells #[.string t] 9)) := grow_alloc (grow_alloc (grow_alloc hk0 _) _) _
  simp only [World.size_alloc, hz0] at hx1 hx2 hx3
  obtain ⟨WL, hWL⟩ : ∃ WL, (((W0.alloc (.cells #[.pointer (some ⟨w1.heap.size, 0, none⟩)] 37)).alloc (.cells #[.pointer none, .slice none 0 0] 45)).alloc (.cells #[.string t] 9)) = WL := ⟨_, rfl⟩
  have hLz : WL.heap.size = w1.heap.size + 4 := by rw [← hWL]; simp [hz0]
  rw [hWL] at hx0' hx1 hx2 hx3 hk1 ⊢
  have hC := HC.out.below hk1
  have hbel : Below w.heap.size w WL := grow_step HB1.out hk1
  rw [hg] at hx0' hx1 hx2 hx3 hLz hlc
  simp only [hg]
  have HG := Lib.hid hg
  have HX3 := Lib.hid hx3
  have h0 : RunI w g [] WL := by
    refine ⟨⟨hx0', ⟨0, Nat.le_refl _, hC⟩, dsk0_ok, by omega, by omega⟩, hx1, ⟨_, _, hx2, Or.inl rfl, World.ownsRow_nil _ _ _ _, by omega⟩, fun _ => hx2, hbel⟩
  have HLZ := Lib.hid hLz
  clear hx0 hx0' hx1 hx2 hx3 hk0 hk1 hW0 hWL hz0 hC hbel hg hLz HC
  refine wp_range_own (gf := 30) (lb := #[.pointer (some ⟨g + 1 + 1 + 1, 0, none⟩)]) (sb := g + 3) (t := 9) (ls := pieces (cutN t)) rfl (enters_of Tryz.func30 (by kernel_rfl) rfl) (by have := HLZ.out; omega) ?it rfl (fun k => k = g ∨ k = w.heap.size ∨ k = g + 2 ∨ g + 6 ≤ k) (by have := HLZ.out; refine ⟨?_, ?_, ?_⟩ <;> omega)
    (fun pre W => RunI w g pre W) ?hI h0
    (fun x => { tmps := #[Value.string t, undef, Value.string { data := #[] }, Value.pointer (some { block := g + 1, off := 0 }), Value.pointer (some { block := g + 1 + 1, off := 0 }), Value.string x, Value.string t, Value.int IntKind.i64 t.size, Value.bool false, Value.pointer (some { block := w.heap.size + 1, off := 0 }), Value.agg #[Value.pointer (some { block := w.heap.size + 1, off := 0 }), Value.int IntKind.i64 0, Value.int IntKind.i64 0, Value.int IntKind.i64 0, Value.int IntKind.i64 0, Value.int IntKind.i64 0, Value.int IntKind.i64 0, Value.int IntKind.i64 0, Value.int IntKind.i64 0], Value.pointer (some { block := g, off := 0 }), Value.string t, Value.func (Fn.func 30) #[] #[Value.pointer (some { block := g + 1 + 1 + 1, off := 0 })], Value.string x, undef, undef, undef, undef, undef, undef, undef], defers := [] }) ?assign ?body ?done
  case it =>
    intro l J W hJ hY hb hj
    exact linesItG 2 (by decide) l (g + 3) J (pieces (cutN t)) hJ hY t (pieces_text t) (by omega) (pieces_lined _ (cutN_clean t)) W (HX3.out.below hb) hj
  case hI =>
    intro pre W W' h hb
    exact h.but hb (fun j e => by have := HLZ.out; omega) hlc
  case assign =>
    intro l x W K hK
    gi_wp2
    exact hK
  case body =>
    intro l pre x rest W hls hsz hI
    have hL := HLZ.out
    have hpl : pre.length + 1 ≤ 3001 := by
      have h2 := congrArg List.length (pieces_trim (cutN t) (cutN_clean t))
      rw [List.length_map, hls] at h2
      have h3 := lines_le t
      unfold linesT at h3
      simp at h2
      omega
    have hxs : x.size ≤ t.size := by
      have h2 := congrArg List.length (pieces_text t)
      rw [hls, flatB_app, flatB_cons] at h2
      simp at h2
      omega
    have hts : (trimN x).size ≤ 3000 := by
      have h2 := line_le t (trimN x) (by
        unfold linesT
        rw [← pieces_trim (cutN t) (cutN_clean t), hls]
        simp)
      omega
    have hos := runF_size (pre.map trimN)
    rw [List.length_map] at hos
    have hsn : runF ((pre ++ [x]).map trimN) = stepR (runF (pre.map trimN)) (trimN x) := by rw [List.map_append]; exact runF_snoc _ _
    have hvs := lineR_size (runF_ok (pre.map trimN)) (wordsB (trimN x))
    have HT : Hid (∀ w2, Calls Tryz.prog 14 #[.string x, .string { data := #[10] }] w2 fun e w' => e = .returned (.string (trimN x)) ∧ w' = w2) := Lib.hid (fun w2 => Tryz.strings_TrimSuffix x { data := #[10] } w2 (by omega))
    obtain ⟨hI1, hI2, hI3, hI4, hI5⟩ := hI
    unfold stepR at hsn
    obtain ⟨p, hp⟩ : ∃ p, runF (pre.map trimN) = p := ⟨_, rfl⟩
    rw [hp] at hI1 hI3 hos hsn hvs
    obtain ⟨d, o⟩ := p
    simp only at hI1 hI3 hos hsn hvs
    obtain ⟨s, hs⟩ : ∃ s, trimN x = s := ⟨_, rfl⟩
    rw [hs] at hts hsn HT hvs
    obtain ⟨R, hR⟩ : ∃ R, lineR d (wordsB s) = R := ⟨_, rfl⟩
    have HA : Hid (∀ W2, Below W.heap.size W W2 → Calls Tryz.prog 13 #[.pointer (some ⟨g, 0, none⟩), .string s] W2 fun e w' => e = .returned (.string R.1) ∧ DeskAt w' g w.heap.size (pre.length + 1) R.2 ∧ But (fun k => k = g ∨ k = w.heap.size) W2 w') := Lib.hid (fun W2 hb => by
      have hw2 : Below w.heap.size w W2 := grow_step hI5 hb
      have hE : ∀ w', But (fun k => k = g ∨ k = w.heap.size) W2 w' → Below w.heap.size w w' := fun w' hk => hw2.trans (hk.below hw2.size (fun k e => by omega))
      have h2 := answer_any W2 g w.heap.size pre.length d s (hI1.below hb) hts (by omega) (fun w' hk => ⟨HRT.out.below (hE w' hk), HUT.out.below (hE w' hk)⟩) (fun w' hk => HDT.out.below (hE w' hk))
      rw [hR] at h2
      exact h2)
    rw [hR] at hsn hvs
    have HW : Hid (∀ W2 W3, Below W.heap.size W W2 → But (fun k => k = g ∨ k = w.heap.size) W2 W3 → Calls Tryz.prog 12 #[.pointer (some ⟨g + 1 + 1, 0, none⟩), .string (R.1 ++ tNl)] W3 fun e w' => e = .returned (.tuple #[.int .i64 (R.1 ++ tNl).size, .nilIface]) ∧ BldAt w' (g + 2) (g + 6) (o.data.toList ++ (R.1 ++ tNl).data.toList) ∧ But (fun k => k = g + 2 ∨ g + 6 ≤ k) W3 w') := Lib.hid (fun W2 W3 hb hk => by
      have h2 := hI3.but ((below_but hb (fun k => k = g ∨ k = w.heap.size)).trans hk (fun _ _ h => h)) (by omega) (fun j hj _ => by omega)
      have h3 : (R.1 ++ tNl).size ≤ 25 := by
        rw [ByteArray.size_append]
        have h4 : (tNl : ByteArray).size = 1 := rfl
        omega
      have h5 : o.data.toList.length = o.size := by simp
      exact bWrite_any (g + 2) (g + 6) _ _ W3 h2 (by omega) (by have := hb.size; have := hk.size; omega))
    have f1 : ∀ w, (Op.stringOp .add R.1 { data := #[10] }).run Tryz.prog w = .ok (.string (R.1 ++ tNl)) w := fun w => run_string_add_sum _ _ _ (by
      have h4 : ({ data := #[10] } : ByteArray).size = 1 := rfl
      omega)
    have mixed : Tryz.prog.follows .mixedOrders = true := by kernel_rfl
    have cV := hI2.cell
    have lV := hI2.lt
    have HSN := Lib.hid hsn
    have HI2 := Lib.hid hI2
    have HI5 := Lib.hid hI5
    obtain ⟨v, d2⟩ := R
    simp only at HA HW f1 HSN
    clear hls hI1 hI2 hI3 hI4 hI5 hsn hp hs hR hvs hos hxs hts
    gi_wp2
    gi_region_with_o (first
      | (refine ⟨trivial, ?_⟩; gi_at_call 14; refine (CallsIn.inRound l (callsIn_wide.2 (HT.out _))).mono ?_; rintro e w' ⟨rfl, rfl⟩)
      | (refine ⟨trivial, ?_⟩; gi_at_call 13; refine (CallsIn.inRound l (callsIn_wide.2 (HA.out _ (by repeat (first | exact grow_refl _ | refine grow_drew ?_))))).mono ?_; rintro e w5 ⟨rfl, hd5, hk5⟩)
      | (refine ⟨trivial, ?_⟩; gi_at_call 12; refine (CallsIn.inRound l (callsIn_wide.2 (HW.out _ _ (by repeat (first | exact grow_refl _ | refine grow_drew ?_)) hk5))).mono ?_; rintro e w6 ⟨rfl, hb6, hk6⟩))
    all_goals gi_wp2
    all_goals
      have hkT : But (fun k => k = g ∨ k = w.heap.size ∨ k = g + 2 ∨ g + 6 ≤ k) W w6 := ((below_but (by repeat (first | exact grow_refl _ | refine grow_drew ?_)) (fun k => k = g ∨ k = w.heap.size ∨ k = g + 2 ∨ g + 6 ≤ k)).trans (hk5.mono (S' := fun k => k = g ∨ k = w.heap.size ∨ k = g + 2 ∨ g + 6 ≤ k) (fun k _ e => by omega)) (fun _ _ h => h)).trans hk6 (fun k _ e => by omega)
      refine ⟨hkT, ?_⟩
      show RunI w g (pre ++ [x]) w6
      refine ⟨?_, HI2.out.but hkT (by omega), ?_, fun e => absurd e (by simp), HI5.out.trans (hkT.below HI5.out.size (fun k e => by omega))⟩
      · rw [HSN.out, List.length_append]
        exact hd5.but hk6 (by omega) (by omega) (by omega)
      · rw [HSN.out]
        have e1 : (o ++ (v ++ tNl)).data.toList = o.data.toList ++ (v ++ tNl).data.toList := by simp
        show BldAt w6 (g + 2) (g + 6) (o ++ (v ++ tNl)).data.toList
        rw [e1]
        exact hb6
  case done =>
    intro W hI hK
    have hL := HLZ.out
    have hp : (pieces (cutN t)).map trimN = linesT t := pieces_trim (cutN t) (cutN_clean t)
    have HK := Lib.hid hK
    obtain ⟨hI1, hI2, hI3, hI4, hI5⟩ := hI
    rw [hp] at hI3
    have HI5 := Lib.hid hI5
    have HSTR : Hid (Calls Tryz.prog 15 #[.pointer (some ⟨g + 1 + 1, 0, none⟩)] W fun e w' => e = .returned (.string (runF (linesT t)).2) ∧ But (fun k => g + 6 ≤ k) W w') := Lib.hid (by
      by_cases h0 : (runF (linesT t)).2.data.toList = []
      · have e0 : pieces (cutN t) = [] := by
          rcases List.eq_nil_or_concat (pieces (cutN t)) with h | ⟨q, y, h⟩
          · exact h
          · exfalso
            rw [← hp, h, List.concat_eq_append, List.map_append] at h0
            exact runF_ne _ _ h0
        refine (bString_nil (g + 2) _ W (hI4 e0)).mono ?_
        rintro e w' ⟨rfl, hk⟩
        refine ⟨?_, hk.mono (fun _ _ h => h.elim)⟩
        have e1 : (runF (linesT t)).2 = ⟨#[]⟩ := bytes_ext h0
        rw [e1]
      · refine (bString_any (g + 2) (g + 6) _ W hI3 h0).mono ?_
        rintro e w' ⟨rfl, hk⟩
        exact ⟨rfl, hk⟩)
    clear hI1 hI2 hI3 hI4 hI5 hK hp hL
    gi_wp2
    refine ⟨trivial, ?_⟩
    refine (callsIn_wide.2 HSTR.out).mono ?_
    rintro e w7 ⟨rfl, hk7⟩
    have hL := HLZ.out
    have hlk : WL.heap.size < W.heap.size := (Array.getElem?_eq_some_iff.1 HK.out).1
    have hK7 : w7.heap[WL.heap.size]? = some (.deferred (some [])) := (hk7.block _ hlk (by omega)).trans HK.out
    have hd : But (fun k => k = WL.heap.size) w7 (w7.putObj WL.heap.size (.deferred none)) := (But.refl (fun k => k = WL.heap.size) w7).putObj (Or.inl rfl) _
    have hw7 : Below w.heap.size w w7 := HI5.out.trans (hk7.below HI5.out.size (fun k e => by omega))
    have hw8 : Below w.heap.size w (w7.putObj WL.heap.size (.deferred none)) := hw7.trans (hd.below hw7.size (fun k e => by omega))
    have HW8 := Lib.hid hw8
    clear hd hw7 hw8 hk7 hlk hL
    gi_wp2
    refine ⟨by simp, .inl ⟨_, _, rfl, run_takeDeferred hK7, ?_⟩⟩
    refine ⟨.string (runF (linesT t)).2, ?_, by rw [HR.out], HW8.out⟩
    simp [results, Tryz.results6]

theorem run_any (t : ByteArray) (w : World) (hR : ReadT w) (hU : UnreadT w) (hD : Door w) :
    Calls Tryz.prog 6 #[.string t] w fun e w' => e = .returned (.string (runT t)) ∧ Below w.heap.size w w' := by
  by_cases hz : t.size ≤ 3000
  · exact run_short t w hz hR hU hD
  · exact run_long t w (by omega)

end Go.Proofs.YtegiffdlfpdbkaaGreatDoor
