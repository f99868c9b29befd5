/- A log made in the call: each method, whatever the log is, in one frame. -/
import Derived.Test.YtkipjloapdolbaaGreatDoorRows
import Derived.Test.YtkipjloapdolbaaGreatDoorNum
import Derived.Test.YtkipjloapdolbaaGreatDoorBase
import Derived.Test.YtkipjloapdolbaaGreatDoorFoot
import Derived.Test.YtkipjloapdolbaaGreatDoorImg
import Derived.Test.YtkipjloapdolbaaGreatDoorCount
import Derived.Test.YtkipjloapdolbaaGreatDoorCntP
import Derived.Test.YtkipjloapdolbaaGreatDoorCntC
import Derived.Test.YtkipjloapdolbaaGreatDoorLiftT
import Derived.Test.YtkipjloapdolbaaGreatDoorLines
import Derived.Test.YtkipjloapdolbaaGreatDoorLogP
import Derived.Test.YtkipjloapdolbaaGreatDoorLogA
import Derived.Test.YtkipjloapdolbaaGreatDoorRedo
import Derived.Test.YtkipjloapdolbaaGreatDoorLogM
import Derived.Test.YtkipjloapdolbaaGreatDoorLogR
import Derived.Test.YtkipjloapdolbaaGreatDoorLogW
import Derived.Test.YtkipjloapdolbaaGreatDoorLogC
namespace Go.Proofs.YtkipjloapdolbaaGreatDoor
open Go.RowKit
set_option maxRecDepth 100000
set_option linter.unusedVariables false
set_option linter.unusedSimpArgs false

/-- A log at g that the call (from w0) made; what it writes is its own, and lies in no block of T. -/
def LogAt (T : Nat → Prop) (w0 w : World) (g N : Nat) (L : Lg) : Prop := ∃ b, LogIs w g b N L ∧ w0.heap.size ≤ b ∧ w0.heap.size ≤ g ∧ Below w0.heap.size w0 w ∧ (∀ k, T k → k < w.heap.size ∧ k ≠ g ∧ k ≠ b ∧ k ≠ b + 1)
theorem LogAt.bel {T : Nat → Prop} {w0 w : World} {g N : Nat} {L : Lg} (h : LogAt T w0 w g N L) : Below w0.heap.size w0 w := by obtain ⟨b, _, _, _, h, _⟩ := h; exact h
theorem LogAt.mono {T : Nat → Prop} {w0 w : World} {g N M : Nat} {L : Lg} (h : LogAt T w0 w g N L) (hm : N ≤ M) : LogAt T w0 w g M L := by
  obtain ⟨b, h1, h2⟩ := h
  exact ⟨b, h1.mono hm, h2⟩
theorem LogAt.below {T : Nat → Prop} {w0 w w' : World} {g N : Nat} {L : Lg} (h : LogAt T w0 w g N L) (hb : Below w.heap.size w w') : LogAt T w0 w' g N L := by
  obtain ⟨b, h1, h2, h3, h4, h5⟩ := h
  exact ⟨b, h1.below hb, h2, h3, h4.trans (hb.mono h4.size), fun k hk => ⟨Nat.lt_of_lt_of_le (h5 k hk).1 hb.size, (h5 k hk).2⟩⟩
/-- What lies in blocks of T, or is younger, may change. -/
theorem LogAt.but {T : Nat → Prop} {w0 w w' : World} {g N : Nat} {L : Lg} (h : LogAt T w0 w g N L) (hb : But T w w') (hT : ∀ k, T k → w0.heap.size ≤ k) : LogAt T w0 w' g N L := by
  obtain ⟨b, h1, h2, h3, h4, h5⟩ := h
  refine ⟨b, h1.but hb (fun e => (h5 _ e).2.1 rfl) (fun e => (h5 _ e).2.2.1 rfl) (fun e => (h5 _ e).2.2.2 rfl), h2, h3, h4.trans (hb.below h4.size hT), fun k hk => ⟨Nat.lt_of_lt_of_le (h5 k hk).1 hb.size, (h5 k hk).2⟩⟩
/-- The blocks that may change besides: others, if they are none of the log's. -/
theorem LogAt.turn {T S : Nat → Prop} {w0 w : World} {g N : Nat} {L : Lg} (h : LogAt T w0 w g N L) {z : World} (hz : LogAt T w0 z g N L) (hzw : Below z.heap.size z w) (hS : ∀ k, S k → k < w.heap.size ∧ (T k ∨ z.heap.size ≤ k)) (hb : ∃ b, LogIs z g b N L ∧ w0.heap.size ≤ b ∧ w0.heap.size ≤ g ∧ (∀ k, T k → k < z.heap.size ∧ k ≠ g ∧ k ≠ b ∧ k ≠ b + 1)) : LogAt S w0 w g N L := by
  obtain ⟨b, h1, h2, h3, h5⟩ := hb
  refine ⟨b, h1.below hzw, h2, h3, h.bel, fun k hk => ⟨(hS k hk).1, ?_⟩⟩
  rcases (hS k hk).2 with e | e
  · exact (h5 k e).2
  · have := h1.ltg
    have := h1.ltb
    refine ⟨by omega, by omega, by omega⟩
theorem LogAt.split {T : Nat → Prop} {w0 z : World} {g N : Nat} {L : Lg} (h : LogAt T w0 z g N L) : ∃ b, LogIs z g b N L ∧ w0.heap.size ≤ b ∧ w0.heap.size ≤ g ∧ (∀ k, T k → k < z.heap.size ∧ k ≠ g ∧ k ≠ b ∧ k ≠ b + 1) := by
  obtain ⟨b, h1, h2, h3, h4, h5⟩ := h
  exact ⟨b, h1, h2, h3, h5⟩
/-- The log's own world from z on: what was younger than z, or free to change, may change besides. -/
theorem LogAt.wide {T S : Nat → Prop} {w0 z w : World} {g N : Nat} {L : Lg} (hz : LogAt T w0 z g N L) (hzw : Below z.heap.size z w) (hS : ∀ k, S k → k < w.heap.size ∧ (T k ∨ z.heap.size ≤ k)) : LogAt S w0 w g N L :=
  LogAt.turn (hz.below hzw) hz hzw hS hz.split
def LogOwn (T : Nat → Prop) (w0 w w' : World) : Prop := But (fun k => w0.heap.size ≤ k ∧ ¬ T k) w w'
theorem LogOwn.refl (T : Nat → Prop) (w0 w : World) : LogOwn T w0 w w := But.refl _ _

def lg0 : Lg := { recs := [], half := [], safe := 0, left := -1, st := false }
theorem lg0_ok : LgOK lg0 := ⟨RecsOK.nil_, by decide, by decide, fun c hc => by simp [lg0] at hc, fun _ => rfl, by decide, by decide, by decide, by decide⟩
theorem logNew_at (w0 w : World) (hw : Below w0.heap.size w0 w) :
    Calls Tryz.prog 5 #[] w fun e w' => ∃ g, e = .returned (.pointer (some ⟨g, 0, none⟩)) ∧ LogAt (fun k => k < w.heap.size ∧ w0.heap.size ≤ k) w0 w' g 0 lg0 ∧ Below w.heap.size w w' := by
  refine (logNew_any w).mono ?_
  rintro e w1 ⟨b, g, rfl, hC, hB, hb1, hb2, hg1, hg2, hg3, hbw⟩
  have hwz := hw.size
  have hbz := hbw.size
  refine ⟨g, rfl, ⟨b, ⟨hB, ⟨0, Nat.le_refl _, ?_⟩, lg0_ok, hg2, hg3⟩, by omega, by omega, hw.trans (hbw.mono hw.size), fun k hk => ⟨by omega, by omega, by omega, by omega⟩⟩, hbw⟩
  unfold CE
  have e1 : hasL (raisedL lg0.recs) = fun _ => false := by funext t; rfl
  have e2 : ofL (raisedL lg0.recs) = fun _ => 0 := by funext t; rfl
  rw [e1, e2]
  exact hC
theorem lgRaise_at {T : Nat → Prop} {w0 w : World} {g N : Nat} {L : Lg} (s : ByteArray) (v : Int) (h : LogAt T w0 w g N L) (hs : s.size ≤ 140737488351232) (hN : N ≤ 900000) (ht : TabT w0) (hm : MaxT w0) :
    Calls Tryz.prog 6 #[.pointer (some ⟨g, 0, none⟩), .string s, .int .i64 v] w fun e w' => e = .returned (.tuple #[.bool (raiseOut L s v).1.1, errV (raiseOut L s v).1.2]) ∧ LogAt T w0 w' g (N + 31) (raiseOut L s v).2 ∧ LogOwn T w0 w w' := by
  obtain ⟨b, h1, h2, h3, h4, h5⟩ := h
  refine (lgRaise_any w g b N L s v h1 hs hN (Held.of ht hm h4 h3 h2)).mono ?_
  rintro e w' ⟨rfl, b', k1, k2, k3⟩
  refine ⟨rfl, ⟨b', k1, by have := h4.size; omega, h3, h4.trans (k3.below h4.size (fun k e => by omega)), fun k hk => ?_⟩, k3.mono (fun k _ e => ?_)⟩
  · have := h5 k hk
    have := k3.size
    refine ⟨by omega, by omega, by omega, by omega⟩
  · refine ⟨by omega, fun hk => ?_⟩
    have := h5 k hk
    omega
theorem lgSync_at {T : Nat → Prop} {w0 w : World} {g N : Nat} {L : Lg} (h : LogAt T w0 w g N L) :
    Calls Tryz.prog 7 #[.pointer (some ⟨g, 0, none⟩)] w fun e w' => e = .returned (errV (syncOut L).1) ∧ LogAt T w0 w' g N (syncOut L).2 ∧ LogOwn T w0 w w' := by
  obtain ⟨b, h1, h2, h3, h4, h5⟩ := h
  refine (lgSync_any w g b N L h1).mono ?_
  rintro e w' ⟨rfl, k1, k3⟩
  refine ⟨rfl, ⟨b, k1, h2, h3, h4.trans (k3.below h4.size (fun k e => by omega)), fun k hk => ?_⟩, k3.mono (fun k _ e => ?_)⟩
  · have := h5 k hk
    have := k3.size
    refine ⟨by omega, by omega, by omega, by omega⟩
  · refine ⟨by omega, fun hk => ?_⟩
    have := h5 k hk
    omega
theorem lgFail_at {T : Nat → Prop} {w0 w : World} {g N : Nat} {L : Lg} (n : Int) (i : I64 n) (h : LogAt T w0 w g N L) :
    Calls Tryz.prog 12 #[.pointer (some ⟨g, 0, none⟩), .int .i64 n] w fun e w' => e = .returned (.tuple #[]) ∧ LogAt T w0 w' g N (failOut L n) ∧ LogOwn T w0 w w' := by
  obtain ⟨b, h1, h2, h3, h4, h5⟩ := h
  refine (lgFail_any w g b N L n i h1).mono ?_
  rintro e w' ⟨rfl, k1, k3⟩
  refine ⟨rfl, ⟨b, k1, h2, h3, h4.trans (k3.below h4.size (fun k e => by omega)), fun k hk => ?_⟩, k3.mono (fun k _ e => ?_)⟩
  · have := h5 k hk
    have := k3.size
    refine ⟨by omega, by omega, by omega, by omega⟩
  · refine ⟨by omega, fun hk => ?_⟩
    have := h5 k hk
    omega
theorem lgCrash_at {T : Nat → Prop} {w0 w : World} {g N : Nat} {L : Lg} (keep : Int) (i : I64 keep) (h : LogAt T w0 w g N L) (hm : MaxT w0) :
    Calls Tryz.prog 8 #[.pointer (some ⟨g, 0, none⟩), .int .i64 keep] w fun e w' => e = .returned (.tuple #[]) ∧ LogAt T w0 w' g 31 (crashOut L keep) ∧ LogOwn T w0 w w' := by
  obtain ⟨b, h1, h2, h3, h4, h5⟩ := h
  refine (lgCrash_any w g b N L keep i h1 (hm.below h4)).mono ?_
  rintro e w' ⟨rfl, b', k1, k2, k3⟩
  refine ⟨rfl, ⟨b', k1, by have := h4.size; omega, h3, h4.trans (k3.below h4.size (fun k e => by omega)), fun k hk => ?_⟩, k3.mono (fun k _ e => ?_)⟩
  · have := h5 k hk
    have := k3.size
    refine ⟨by omega, by omega, by omega, by omega⟩
  · refine ⟨by omega, fun hk => ?_⟩
    have := h5 k hk
    omega
theorem lgLeast_at {T : Nat → Prop} {w0 w : World} {g N : Nat} {L : Lg} (s : ByteArray) (h : LogAt T w0 w g N L) (hs : s.size ≤ 140737488351232) :
    Calls Tryz.prog 9 #[.pointer (some ⟨g, 0, none⟩), .string s] w fun e w' => e = .returned (.tuple #[.int .i64 (if okName s then ofL (raisedL L.recs) s.data.toList else 0), errV (if okName s then 0 else 3)]) ∧ Below w.heap.size w w' := by
  obtain ⟨b, h1, _⟩ := h
  exact lgLeast_any w g b N L s h1 hs
theorem lgBytes_at {T : Nat → Prop} {w0 w : World} {g N : Nat} {L : Lg} (h : LogAt T w0 w g N L) :
    Calls Tryz.prog 10 #[.pointer (some ⟨g, 0, none⟩)] w fun e w' => e = .returned (.int .i64 (bytesB L.recs L.half).size) ∧ w = w' := by
  obtain ⟨b, h1, _⟩ := h
  exact lgBytes_any w g b N L h1
theorem lgSafe_at {T : Nat → Prop} {w0 w : World} {g N : Nat} {L : Lg} (h : LogAt T w0 w g N L) :
    Calls Tryz.prog 11 #[.pointer (some ⟨g, 0, none⟩)] w fun e w' => e = .returned (.int .i64 L.safe) ∧ w = w' := by
  obtain ⟨b, h1, _⟩ := h
  exact lgSafe_any w g b N L h1
theorem LogAt.ok {T : Nat → Prop} {w0 w : World} {g N : Nat} {L : Lg} (h : LogAt T w0 w g N L) : LgOK L := by
  obtain ⟨b, ⟨_, _, h, _⟩, _⟩ := h
  exact h

end Go.Proofs.YtkipjloapdolbaaGreatDoor
