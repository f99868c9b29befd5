/- What comes in: quotes, and lists of events. -/
import Derived.Test.YtdedllfgeekogaaDoorOpenS
import Derived.Test.YtdedllfgeekogaaDoorEvent
import Derived.Test.YtdedllfgeekogaaDoorOpE
import Derived.Lib.SmallJoins
namespace Go.Proofs.YtdedllfgeekogaaDoor
open Go.ChangeShapes Go.WideShapes Go.ChangeAt Go.RowKit Go.WideMaps Go.WideElems Go.Deep
set_option maxRecDepth 100000

/-- As op_slice, of a slice that lies in a cell. -/
theorem slice_of_cells {H : Type} {enc : TypeId × Value → H} {P : Program} {w : World} {fuel : Nat} {cs : List Value} {x : DataW H × List MemPlace} {t e : TypeId} {X : Type} [Inhabited X] (R : X → List Value → Prop) (size : Nat)
    (ht : P.underlying t = some (.slice e)) (hc : P.cellsOf e = size) (hs0 : 0 < size)
    (elem : ∀ (fuel : Nat) (cs : List Value) (x : DataW H × List MemPlace), DataW.trod enc P w 0 (fun _ => true) true fuel e cs = some x → cs.length = size → (∀ p ∈ x.2, p.block < w.heap.size) → (∀ n ∈ x.1.weights P e, n ≤ reachBytes) → ∃ y : X, R y cs)
    (h : DataW.trod enc P w 0 (fun _ => true) true fuel t cs = some x) (hlt : ∀ p ∈ x.2, p.block < w.heap.size) (hw : ∀ n ∈ x.1.weights P t, n ≤ reachBytes) :
    ∃ (A : Option Addr) (ys : List X) (c : Nat), cs = [.slice A ys.length c] ∧ ys.length ≤ c ∧ ys.length * P.bytesOf e ≤ 140737488351232 ∧
      ∀ i, i < ys.length → ∃ b off cs, A = some ⟨b, off, none⟩ ∧ b < w.heap.size ∧ cs.length = size ∧ (∀ j, j < size → w.cell? ⟨b, off + i * size + j, none⟩ = cs[j]?) ∧ R (ys.getD i default) cs := by
  have er : reachBytes = 140737488351232 := by decide
  rcases open_slice ht h with ⟨hcs, hx⟩ | ⟨a, len, cap, m, n, D, Pl, hcs, _, hl, hm, hmm, hx, hi⟩
  · subst hcs
    exact ⟨none, [], 0, rfl, Nat.le_refl _, by simp, fun i hi => absurd hi (by simp)⟩
  · subst hcs
    simp only [if_true] at hmm
    subst hmm
    subst hx
    rw [hc] at hi
    have hwD : ∀ i, i < len → ∀ n ∈ (D i).weights P e, n ≤ reachBytes := fun i hil n hn => hw n (by
      simp only [DataW.weights, ht, List.mem_cons, List.mem_append]
      exact Or.inr (Or.inl (weightsAll_mem (List.mem_map.2 ⟨i, by simpa using hil, rfl⟩) n hn)))
    have hpD : ∀ i, i < len → ∀ p ∈ Pl i, p.block < w.heap.size := fun i hil p hp => hlt p (by
      rw [List.mem_append]
      exact Or.inr (List.mem_flatMap.2 ⟨i, by simp; omega, hp⟩))
    have hlen : len * P.bytesOf e ≤ 140737488351232 := by
      have := hw (((List.range len).map D).length * P.bytesOf e + ((List.range (m - len)).map fun j => D (len + j)).length * P.bytesOf e) (by
        rw [← Nat.add_mul]; simp [DataW.weights, ht])
      rw [er, List.length_map, List.length_range] at this
      omega
    obtain ⟨V, hV⟩ := choose_lt (α := X) (n := len) (p := fun i y => ∃ b off cs, a = ⟨b, off, none⟩ ∧ b < w.heap.size ∧ cs.length = size ∧ (∀ j, j < size → w.cell? ⟨b, off + i * size + j, none⟩ = cs[j]?) ∧ R y cs) (fun i hil => by
      obtain ⟨cs, h1, h2⟩ := hi i (by omega)
      obtain ⟨_, hcl, hat⟩ := World.cells?_some h1
      obtain ⟨y, hy⟩ := elem _ cs _ h2 hcl (hpD i hil) (hwD i hil)
      obtain ⟨cs0, h10, _⟩ := hi 0 (by omega)
      obtain ⟨_, hcl0, hat0⟩ := World.cells?_some h10
      have h0 := hat0 0 hs0
      obtain ⟨b, off, spot⟩ := a
      have hsome : w.cell? (((⟨b, off, spot⟩ : Addr).add (0 * size)).add 0) = some (cs0[0]'(by omega)) := by rw [h0]; exact List.getElem?_eq_getElem _
      have hspot : spot = none := by
        have := World.cell?_spot hsome
        rw [add_add] at this
        unfold Addr.add at this
        simpa using this
      subst hspot
      refine ⟨y, b, off, cs, rfl, ?_, hcl, fun j hj => ?_, hy⟩
      · have := hlt (.cell b off) (by
          rw [List.mem_append]
          left
          unfold MemPlace.row
          rw [List.mem_map]
          refine ⟨0, ?_, by simp⟩
          rw [List.mem_range, hc]
          exact Nat.mul_pos (by omega) hs0)
        exact this
      · have := hat j hj
        rw [add_add, Go.WideShapes.add_plain] at this
        rw [← this, Nat.add_assoc])
    refine ⟨some a, (List.range len).map V, m, by rw [List.length_map, List.length_range], by rw [List.length_map, List.length_range]; omega, by rw [List.length_map, List.length_range]; exact hlen, fun i hil => ?_⟩
    rw [List.length_map, List.length_range] at hil
    obtain ⟨b, off, cs, rfl, h1, h2, h3, h4⟩ := hV i hil
    refine ⟨b, off, cs, rfl, h1, h2, h3, ?_⟩
    have : ((List.range len).map V).getD i default = V i := by
      rw [List.getD_eq_getElem?_getD, List.getElem?_map, List.getElem?_range hil]; rfl
    rw [this]
    exact h4

section
variable {H : Type} {enc : TypeId × Value → H} {w : World} {b0 : Nat} {v : Value} {d : DataW H} {ps : List MemPlace}

/-- Quotes one behind the other: nonce, mask, digest, point, answer. -/
abbrev Qt := Int × Int × Int × Int × Int
def noQt : Qt := (0, 0, 0, 0, 0)
def qtCs (y : Qt) : List Value := [.int .i64 y.1, .int .i64 y.2.1, .int .i64 y.2.2.1, .int .i64 y.2.2.2.1, .int .i64 y.2.2.2.2]
def QtIs (y : Qt) (cs : List Value) : Prop := cs = qtCs y ∧ I64 y.1 ∧ I64 y.2.1 ∧ I64 y.2.2.1 ∧ I64 y.2.2.2.1 ∧ I64 y.2.2.2.2
def QtsAt (w : World) (A : Option Addr) (ss : List Qt) : Prop :=
  ∀ i, i < ss.length → ∃ b off, A = some ⟨b, off, none⟩ ∧ b < w.heap.size ∧ ∀ j, j < 5 → w.cell? ⟨b, off + i * 5 + j, none⟩ = (qtCs (ss.getD i noQt))[j]?
theorem QtsAt.below {w w' : World} {A : Option Addr} {ss : List Qt} (h : QtsAt w A ss) (hb : Below w.heap.size w w') : QtsAt w' A ss := fun i hi => by
  obtain ⟨b, off, e, hlt, hc⟩ := h i hi
  exact ⟨b, off, e, Nat.lt_of_lt_of_le hlt hb.size, fun j hj => (hb.cell (p := ⟨b, off + i * 5 + j, none⟩) hlt).trans (hc j hj)⟩

theorem elem_sealK {fuel : Nat} {cs : List Value} {x : DataW H × List MemPlace} (h : DataW.trod enc Tryd.prog w 0 (fun _ => true) true fuel 32 cs = some x) (hl : cs.length = 2) :
    ∃ y : Int × Int, cs = [.int .i64 y.1, .int .i64 y.2] ∧ I64 y.1 ∧ I64 y.2 := by
  obtain ⟨y0, y1, n, _, _, h0, h1⟩ := trod_struct2 Tryd.underlying32 h
  match cs, hl with
  | [c0, c1], _ =>
    have hc : Program.cellsOf Tryd.prog 3 = 1 := by kernel_rfl
    simp only [hc, List.drop_zero, List.take_succ_cons, List.take_zero, List.drop_succ_cons] at h0 h1
    obtain ⟨a, e0, _, wa⟩ := DataW.trod_int Tryd.underlying3 h0
    obtain ⟨b, e1, _, wb⟩ := DataW.trod_int Tryd.underlying3 h1
    simp only [List.cons.injEq, and_true] at e0 e1
    exact ⟨(a, b), by rw [e0, e1], i64_of_wf wa, i64_of_wf wb⟩
theorem elem_quote {fuel : Nat} {cs : List Value} {x : DataW H × List MemPlace} (h : DataW.trod enc Tryd.prog w 0 (fun _ => true) true fuel 53 cs = some x) (hl : cs.length = 5) : ∃ y : Qt, QtIs y cs := by
  obtain ⟨y0, y1, y2, y3, n, hx, _, h0, h1, h2, h3⟩ := Go.Joins.trod_struct4 Tryd.underlying53 h
  match cs, hl with
  | [c0, c1, c2, c3, c4], _ =>
    have hc : Program.cellsOf Tryd.prog 3 = 1 := by kernel_rfl
    have hs : Program.cellsOf Tryd.prog 32 = 2 := by kernel_rfl
    simp only [hc, hs, List.drop_zero, List.take_succ_cons, List.take_zero, List.drop_succ_cons] at h0 h1 h2 h3
    obtain ⟨a, e0, _, wa⟩ := DataW.trod_int Tryd.underlying3 h0
    obtain ⟨b, e1, _, wb⟩ := DataW.trod_int Tryd.underlying3 h1
    obtain ⟨c, e2, _, wc⟩ := DataW.trod_int Tryd.underlying3 h2
    obtain ⟨⟨p, q⟩, e3, ip, iq⟩ := elem_sealK h3 rfl
    simp only [List.cons.injEq, and_true] at e0 e1 e2 e3
    exact ⟨(a, b, c, p, q), by rw [e0, e1, e2, e3.1, e3.2]; rfl, i64_of_wf wa, i64_of_wf wb, i64_of_wf wc, ip, iq⟩

theorem op_quotes (hv : Value.okWide Tryd.prog w .any b0 72 v) (h : DataW.Trod enc Tryd.prog w 0 (fun _ => true) true 72 v d ps) (hlt : ∀ x ∈ ps, x.block < w.heap.size)
    (hw : ∀ n ∈ d.weights Tryd.prog 72, n ≤ reachBytes) : ∃ A ss c, v = .slice A ss.length c ∧ QtsAt w A ss ∧ ss.length * 40 ≤ 140737488351232 ∧ ss.length ≤ c := by
  have : Inhabited Qt := ⟨noQt⟩
  obtain ⟨A, es, c, e1, e2, e3, e4⟩ := op_slice (X := Qt) QtIs 5 Tryd.underlying72 (by kernel_rfl) (by decide)
    (fun fuel cs x hx hl _ _ => elem_quote hx hl) hv h hlt hw
  have e40 : Program.bytesOf Tryd.prog 53 = 40 := by kernel_rfl
  rw [e40] at e3
  refine ⟨A, es, c, e1, fun i hi => ?_, e3, e2⟩
  obtain ⟨b, off, cs, hA, hb, _, hc, hR, _⟩ := e4 i hi
  have hdef : es.getD i default = es.getD i noQt := by rw [List.getD_eq_getElem?_getD, List.getD_eq_getElem?_getD, List.getElem?_eq_getElem hi]; rfl
  rw [hdef] at hR
  subst hR
  exact ⟨b, off, hA, hb, hc⟩

/-- Lists of events one behind the other. -/
def EvssIs (w : World) (y : List (Int × Int)) (cs : List Value) : Prop := ∃ A c, cs = [.slice A y.length c] ∧ EvsAt w A y ∧ y.length * 16 ≤ 140737488351232 ∧ y.length ≤ c
def EvssAt (w : World) (A : Option Addr) (ss : List (List (Int × Int))) : Prop :=
  ∀ i, i < ss.length → ∃ b off EA ec, A = some ⟨b, off, none⟩ ∧ b < w.heap.size ∧ w.cell? ⟨b, off + i, none⟩ = some (.slice EA (ss.getD i []).length ec) ∧ EvsAt w EA (ss.getD i []) ∧ (ss.getD i []).length * 16 ≤ 140737488351232 ∧ (ss.getD i []).length ≤ ec
theorem EvssAt.below {w w' : World} {A : Option Addr} {ss : List (List (Int × Int))} (h : EvssAt w A ss) (hb : Below w.heap.size w w') : EvssAt w' A ss := fun i hi => by
  obtain ⟨b, off, EA, ec, e, hlt, hc, h1, h2⟩ := h i hi
  exact ⟨b, off, EA, ec, e, Nat.lt_of_lt_of_le hlt hb.size, (hb.cell (p := ⟨b, off + i, none⟩) hlt).trans hc, h1.below hb, h2⟩
theorem evs_of_cells {fuel : Nat} {cs : List Value} {x : DataW H × List MemPlace} (h : DataW.trod enc Tryd.prog w 0 (fun _ => true) true fuel 39 cs = some x) (hlt : ∀ p ∈ x.2, p.block < w.heap.size) (hw : ∀ n ∈ x.1.weights Tryd.prog 39, n ≤ reachBytes) : ∃ y : List (Int × Int), EvssIs w y cs := by
  obtain ⟨A, es, c, e1, e2, e3, e4⟩ := slice_of_cells (X := Int × Int) (fun y cs => cs = [.int .i64 y.1, .int .i64 y.2] ∧ I64 y.1 ∧ I64 y.2) 2 Tryd.underlying39 (by kernel_rfl) (by decide)
    (fun fuel cs x hx hl _ _ => elem_ev hx hl) h hlt hw
  have e16 : Program.bytesOf Tryd.prog 98 = 16 := by kernel_rfl
  rw [e16] at e3
  refine ⟨es, A, c, e1, fun i hi => ?_, e3, e2⟩
  obtain ⟨b, off, cs, hA, hb, _, hc, hR, _, _⟩ := e4 i hi
  subst hR
  have h0 := hc 0 (by decide)
  have h1 := hc 1 (by decide)
  exact ⟨b, off, hA, hb, by rw [Nat.add_zero] at h0; exact h0, h1⟩
theorem op_evss (hv : Value.okWide Tryd.prog w .any b0 73 v) (h : DataW.Trod enc Tryd.prog w 0 (fun _ => true) true 73 v d ps) (hlt : ∀ x ∈ ps, x.block < w.heap.size)
    (hw : ∀ n ∈ d.weights Tryd.prog 73, n ≤ reachBytes) : ∃ A ss c, v = .slice A ss.length c ∧ EvssAt w A ss ∧ ss.length * 24 ≤ 140737488351232 ∧ ss.length ≤ c := by
  obtain ⟨A, es, c, e1, e2, e3, e4⟩ := op_slice (X := List (Int × Int)) (EvssIs w) 1 Tryd.underlying73 (by kernel_rfl) (by decide)
    (fun fuel cs x hx hl hp hwt => evs_of_cells hx hp hwt) hv h hlt hw
  have e24 : Program.bytesOf Tryd.prog 39 = 24 := by kernel_rfl
  rw [e24] at e3
  refine ⟨A, es, c, e1, fun i hi => ?_, e3, e2⟩
  obtain ⟨b, off, cs, hA, hb, _, hc, EA, ec, hR, hE, hz, hl⟩ := e4 i hi
  have hdef : es.getD i default = es.getD i [] := rfl
  rw [hdef] at hR hE hz hl
  subst hR
  have h0 := hc 0 (by decide)
  rw [Nat.mul_one, Nat.add_zero] at h0
  exact ⟨b, off, EA, ec, hA, hb, h0, hE, hz, hl⟩
end
end Go.Proofs.YtdedllfgeekogaaDoor
