/- The law of a range over a function whose iterator keeps its state in a cell of its own, and whose body goes through to its end each time. -/
import Derived.Test.YtegiffdlfpdbkaaGreatDoorRows
import Derived.Test.YtegiffdlfpdbkaaGreatDoorNum
import Derived.Test.YtegiffdlfpdbkaaGreatDoorBase
import Derived.Test.YtegiffdlfpdbkaaGreatDoorFoot
import Derived.RangeFuncNested
import Derived.RangeFuncBound
import Derived.RangeFuncCalls
import Derived.RangeFuncLeaves
import Derived.RangeFuncKeeps
import Derived.ControlIn
namespace Go.Proofs.YtegiffdlfpdbkaaGreatDoor
open Go.RowKit
set_option maxRecDepth 100000
set_option linter.unusedVariables false

theorem But.putObj {S : Nat → Prop} {a w : World} (h : But S a w) {r : Nat} (hr : S r ∨ a.heap.size ≤ r) (o : Obj) : But S a (w.putObj r o) :=
  ⟨h.os, h.tape, h.output, Nat.le_trans h.size (by simp), fun k hk hn => (World.putObj_heap_other (fun e => by
    subst e
    rcases hr with hr | hr
    · exact hn hr
    · omega)).trans (h.block k hk hn)⟩
/-- How the body of a round may be left: at its end alone. -/
def roundEnd (T : Nat → Prop) (I : World → Prop) (W : World) : Exit → Act → World → Prop
  | .normal, _, W' => But T W W' ∧ I W'
  | _, _, _ => False

theorem wp_range_own {P : Program} {g : Operand} {ps : Array Tmp} {assign body : Code} {Q : Exit → Act → World → Prop} {a : Act} {w : World} {gf : Nat} {lb : Array Value}
    (hg : a.eval g = .func (.func gf) #[] lb) (eg : ∀ args w, (callFunc gf args).run P w = .ok (.enter gf args) w)
    {sb : Nat} {t : TypeId} (hsb : sb < w.heap.size) {ls : List ByteArray}
    (it : ∀ (l : Nat) (J : List ByteArray → World → Prop) (W : World), (∀ pre W W', J pre W → But (fun k => k = sb) W W' → J pre W') →
      (∀ pre x rest W, ls = pre ++ x :: rest → J pre W → YieldAt Fence.wide 1 P l #[.string x] W fun e W' => e = .returned (.bool true) ∧ J (pre ++ [x]) W' ∧ (∀ cs, Box W sb t cs → Box W' sb t cs)) →
      Below w.heap.size w W → J [] W → CallsIn Fence.wide 2 P gf (#[.func (.yield l) #[] #[]] ++ lb) W fun e W' => (∃ v, e = .returned v) ∧ J ls W')
    (hps : ps.size = 1) (T : Nat → Prop) (hT : ¬ T sb ∧ ¬ T w.heap.size ∧ ¬ T (w.heap.size + 1))
    (I : List ByteArray → World → Prop) (hI : ∀ pre W W', I pre W → But (fun k => k = sb ∨ k = w.heap.size ∨ k = w.heap.size + 1) W W' → I pre W') (h0 : I [] w) (a₁ : ByteArray → Act)
    (hassign : ∀ (l : Nat) (x : ByteArray) (W : World) (K : Act → World → Prop), K (a₁ x) W →
      assign.wpIn (Fence.wide.inRound l) 1 P (Exit.then K (fun _ _ _ => False)) { tmps := (ps.zip #[.string x]).foldl (fun t (p, v) => t.setIfInBounds p v) a.tmps, defers := [] } W)
    (hbody : ∀ (l : Nat) (pre : List ByteArray) (x : ByteArray) (rest : List ByteArray) (W : World), ls = pre ++ x :: rest → w.heap.size + 1 < W.heap.size → I pre W → body.wpIn (Fence.wide.inRound l) 1 P (roundEnd T (I (pre ++ [x])) W) (a₁ x) W)
    (hdone : ∀ (W : World), I ls W → W.heap[w.heap.size]? = some (.deferred (some [])) → Q .normal { a with defers := { target := .collected w.heap.size, args := #[] } :: a.defers } W) :
    (Code.rangeFunc g ps assign body).wpIn Fence.wide 3 P Q a w := by
  refine wpIn_rangeFunc ?_
  intro fn hfn
  obtain ⟨rec, hrec⟩ : ∃ rec : LoopState → Option Code → Loop, rec = fun st pe => { state := st, pending := pe, fn, tmps := a.tmps, params := ps, assign, body, defers := w.heap.size } := ⟨_, rfl⟩
  obtain ⟨W1, hW1⟩ : ∃ W1, (w.alloc (.deferred (some []))).alloc (.loop (rec .ready none)) = W1 := ⟨_, rfl⟩
  have hL1 : W1.heap[w.heap.size + 1]? = some (.loop (rec .ready none)) := by
    rw [← hW1]; have := World.alloc_heap_new (w.alloc (.deferred (some []))) (.loop (rec .ready none)); rwa [World.size_alloc] at this
  have hK1 : W1.heap[w.heap.size]? = some (.deferred (some [])) := by
    rw [← hW1]; exact (Below.heap_alloc _ _ _ (by simp)).trans (World.alloc_heap_new w _)
  have hI1 : I [] W1 := by rw [← hW1]; exact hI _ _ _ h0 (((But.refl _ w).alloc _).alloc _)
  have hb1 : Below w.heap.size w W1 := by
    rw [← hW1]; exact ((Below.refl _ w).alloc (Nat.le_refl _) _).alloc (by simp) _
  refine ⟨w.heap.size + 1, [{ target := .collected w.heap.size, args := #[] }], W1, { target := .fn (.func gf) lb, args := #[.func (.yield (w.heap.size + 1)) #[] #[]] }, W1, gf,
    #[.func (.yield (w.heap.size + 1)) #[] #[]] ++ lb, W1, ?_, ?_, ?_, ?_, fun _ => by decide, ?_⟩
  · rw [← hW1, hrec]; exact run_enterLoop_outer _ _ _ _ _
  · simp only [resolve, hg]
    simp [go_sem]
  · intro f' hf'; trivial
  · simp [invoke, go_sem, eg]
  · have keep : ∀ {W W' : World} {S : Nat → Prop} {k : Nat} {o : Obj}, W.heap[k]? = some o → But S W W' → ¬ S k → W'.heap[k]? = some o := fun hk hb hn => (hb.block _ (Array.getElem?_eq_some_iff.1 hk).1 hn).trans hk
    refine (it (w.heap.size + 1)
      (fun pre W => I pre W ∧ W.heap[w.heap.size + 1]? = some (.loop (rec .ready none)) ∧ W.heap[w.heap.size]? = some (.deferred (some []))) W1
      (fun pre W W' hs hb => ⟨hI _ _ _ hs.1 (hb.mono (fun _ _ h => Or.inl h)), keep hs.2.1 hb (by omega), keep hs.2.2 hb (by omega)⟩)
      ?_ hb1 ⟨hI1, hL1, hK1⟩).mono ?_
    · rintro pre x rest W hls ⟨hi, hl, hk⟩
      have hlt : w.heap.size + 1 < W.heap.size := (Array.getElem?_eq_some_iff.1 hl).1
      have hy := run_yield (P := P) (args := #[.string x]) hl (by rw [hrec]; exact hps.symm)
      rw [hrec] at hy
      refine ⟨fn, _, assign, body, hy, roundIn_of_wpIn hfn (hassign _ x W _ ⟨_, run_beginRound hl (by rw [hrec]), ?_⟩)⟩
      obtain ⟨W2, hW2⟩ : ∃ W2, W.putObj (w.heap.size + 1) (.loop { rec .ready none with state := .busy }) = W2 := ⟨_, rfl⟩
      have hl2 : W2.heap[w.heap.size + 1]? = some (.loop { rec .ready none with state := .busy }) := by rw [← hW2]; exact World.putObj_heap_same hlt
      have hb2 : But (fun k => k = sb ∨ k = w.heap.size ∨ k = w.heap.size + 1) W W2 := by rw [← hW2]; exact (But.refl _ W).putObj (Or.inl (Or.inr (Or.inr rfl))) _
      have hb2' : But (fun k => k = w.heap.size + 1) W W2 := by rw [← hW2]; exact (But.refl (fun k => k = w.heap.size + 1) W).putObj (Or.inl rfl) _
      have hk2 : W2.heap[w.heap.size]? = some (.deferred (some [])) := keep hk hb2' (by omega)
      have hz2 : w.heap.size + 1 < W2.heap.size := (Array.getElem?_eq_some_iff.1 hl2).1
      rw [hW2]
      refine wpIn_mono (hbody _ pre x rest W2 hls hz2 (hI _ _ _ hi hb2)) ?_
      rintro e a3 W3 hp
      cases e with
      | normal =>
        obtain ⟨hb3, hi3⟩ := hp
        have hl3 : W3.heap[w.heap.size + 1]? = some (.loop { rec .ready none with state := .busy }) := keep hl2 hb3 hT.2.2
        have hk3 : W3.heap[w.heap.size]? = some (.deferred (some [])) := keep hk2 hb3 hT.2.1
        have hr := run_endRound (P := P) none hl3
        refine ⟨_, _, hr, rfl, ⟨hI _ _ _ hi3 ((But.refl _ W3).putObj (Or.inl (Or.inr (Or.inr rfl))) _), ?_, ?_⟩, ?_⟩
        · rw [hrec]
          exact World.putObj_heap_same (Array.getElem?_eq_some_iff.1 hl3).1
        · exact (World.putObj_heap_other (by omega)).trans hk3
        · intro cs hc
          have h1 : Box W2 sb t cs := Box.but hc hb2' (by omega)
          have h2 : Box W3 sb t cs := Box.but h1 hb3 hT.1
          exact Box.but h2 ((But.refl (fun k => k = w.heap.size + 1) W3).putObj (Or.inl rfl) _) (by omega)
      | ret => exact hp.elim
      | exit id => exact hp.elim
      | goto t => exact hp.elim
      | panic ch => exact hp.elim
      | outgrown => exact hp.elim
    · rintro e W2 ⟨⟨v, rfl⟩, hi, hl, hk⟩
      exact ⟨none, _, by have := run_endLoop (P := P) hl (by rw [hrec]; simp); rw [hrec] at this; exact this, hdone _ (hI _ _ _ hi ((But.refl _ W2).putObj (Or.inl (Or.inr (Or.inr rfl))) _)) ((World.putObj_heap_other (by omega)).trans hk)⟩

end Go.Proofs.YtegiffdlfpdbkaaGreatDoor
