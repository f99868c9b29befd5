/- What comes in: events. -/
import Derived.Test.YtdedllfgeekogaaDoorOpenS
import Derived.Test.YtdedllfgeekogaaDoorEvent
import Derived.Test.YtdedllfgeekogaaDoorApp
namespace Go.Proofs.YtdedllfgeekogaaDoor
open Go.ChangeShapes Go.WideShapes Go.ChangeAt Go.RowKit Go.WideMaps Go.WideElems Go.Deep
set_option maxRecDepth 100000

section
variable {H : Type} {enc : TypeId × Value → H} {w : World} {b0 : Nat} {v : Value} {d : DataW H} {ps : List MemPlace}

theorem elem_ev {fuel : Nat} {cs : List Value} {x : DataW H × List MemPlace} (h : DataW.trod enc Tryd.prog w 0 (fun _ => true) true fuel 98 cs = some x) (hl : cs.length = 2) :
    ∃ y : Int × Int, cs = [.int .i64 y.1, .int .i64 y.2] ∧ I64 y.1 ∧ I64 y.2 := by
  obtain ⟨y0, y1, n, _, _, h0, h1⟩ := trod_struct2 Tryd.underlying98 h
  match cs, hl with
  | [c0, c1], _ =>
    have hc : Program.cellsOf Tryd.prog 3 = 1 := by kernel_rfl
    simp only [hc, List.drop_zero, List.take_succ_cons, List.take_zero, List.drop_succ_cons] at h0 h1
    obtain ⟨a, e0, _, wa⟩ := DataW.trod_int Tryd.underlying3 h0
    obtain ⟨b, e1, _, wb⟩ := DataW.trod_int Tryd.underlying3 h1
    simp only [List.cons.injEq, and_true] at e0 e1
    exact ⟨(a, b), by rw [e0, e1], i64_of_wf wa, i64_of_wf wb⟩

theorem op_evs (hv : Value.okWide Tryd.prog w .any b0 39 v) (h : DataW.Trod enc Tryd.prog w 0 (fun _ => true) true 39 v d ps) (hlt : ∀ x ∈ ps, x.block < w.heap.size)
    (hw : ∀ n ∈ d.weights Tryd.prog 39, n ≤ reachBytes) : ∃ A es c, v = .slice A es.length c ∧ EvsAt w A es ∧ es.length * 16 ≤ 140737488351232 ∧ es.length ≤ c := by
  obtain ⟨A, es, c, e1, e2, e3, e4⟩ := op_slice (X := Int × Int) (fun y cs => cs = [.int .i64 y.1, .int .i64 y.2] ∧ I64 y.1 ∧ I64 y.2) 2 Tryd.underlying39 (by kernel_rfl) (by decide)
    (fun fuel cs x hx hl _ _ => elem_ev hx hl) hv h hlt hw
  have e16 : Program.bytesOf Tryd.prog 98 = 16 := by kernel_rfl
  rw [e16] at e3
  refine ⟨A, es, c, e1, fun i hi => ?_, e3, e2⟩
  obtain ⟨b, off, cs, hA, hb, _, hc, hR, _, _⟩ := e4 i hi
  subst hR
  have h0 := hc 0 (by decide)
  have h1 := hc 1 (by decide)
  exact ⟨b, off, hA, hb, by rw [Nat.add_zero] at h0; exact h0, h1⟩

theorem op_ev (hv : Value.okWide Tryd.prog w .any b0 98 v) : ∃ x m, v = .agg #[.int .i64 x, .int .i64 m] ∧ I64 x ∧ I64 m := by
  simp only [Value.okWide, Tryd.underlying98] at hv
  obtain ⟨cs, rfl, hsz, ts, hts, _, hc⟩ := hv
  have e : Program.cellTypes Tryd.prog Tryd.prog.depth 98 = some [3, 3] := by kernel_rfl
  obtain rfl := Option.some.inj (hts.symm.trans e)
  have e8 : Program.cellsOf Tryd.prog 98 = 2 := by kernel_rfl
  rw [e8] at hsz
  have hi : ∀ i (h : i < 2), ∃ n, cs[i]'(by omega) = .int .i64 n ∧ I64 n := fun i h => by
    obtain ⟨u, hu, ho⟩ := hc i (cs[i]'(by omega)) (Array.getElem?_eq_getElem _)
    have : u = 3 := by
      match i, h, hu with
      | 0, _, hu | 1, _, hu => exact (Option.some.inj hu).symm
    subst this
    exact cell_int ho
  obtain ⟨x0, e0, k0⟩ := hi 0 (by omega)
  obtain ⟨x1, e1, k1⟩ := hi 1 (by omega)
  refine ⟨x0, x1, ?_, k0, k1⟩
  congr 1
  apply Array.ext (by simpa using hsz)
  intro i h1 h2
  have h3 : i < 2 := by omega
  match i, h3 with
  | 0, _ => exact e0
  | 1, _ => exact e1
end

/-! Events as cells. -/
def evCells (es : List (Int × Int)) : List Value := es.flatMap fun e => [.int .i64 e.1, .int .i64 e.2]
theorem evCells_len (es : List (Int × Int)) : (evCells es).length = es.length * 2 := by
  induction es with
  | nil => rfl
  | cons e es ih => unfold evCells at *; rw [List.flatMap_cons, List.length_append, ih]; simp; omega
theorem evCells_append (es fs : List (Int × Int)) : evCells (es ++ fs) = evCells es ++ evCells fs := by unfold evCells; rw [List.flatMap_append]
theorem evCells_one (es : List (Int × Int)) : ∀ u ∈ evCells es, u.oneCell' = true := fun u hu => by
  unfold evCells at hu
  obtain ⟨e, _, h⟩ := List.mem_flatMap.1 hu
  simp only [List.mem_cons, List.not_mem_nil, or_false] at h
  rcases h with rfl | rfl <;> rfl
theorem evCells_at : ∀ (es : List (Int × Int)) (i : Nat), i < es.length → (evCells es)[i * 2]? = some (.int .i64 (es.getD i (0, 0)).1) ∧ (evCells es)[i * 2 + 1]? = some (.int .i64 (es.getD i (0, 0)).2)
  | e :: es, 0, _ => ⟨rfl, rfl⟩
  | e :: es, i + 1, h => by
    have ih := evCells_at es i (by simpa using h)
    have e1 : (i + 1) * 2 = i * 2 + 2 := by omega
    have e2 : (i + 1) * 2 + 1 = i * 2 + 1 + 2 := by omega
    have e3 : evCells (e :: es) = .int .i64 e.1 :: .int .i64 e.2 :: evCells es := by unfold evCells; rw [List.flatMap_cons]; rfl
    rw [e2, e1, e3, List.getElem?_cons_succ, List.getElem?_cons_succ, List.getElem?_cons_succ, List.getElem?_cons_succ]
    exact ih
theorem EvsAt.of_cells {w : World} {A : Option Addr} {es : List (Int × Int)} (h : CellsAt w A (evCells es)) : EvsAt w A es := fun i hi => by
  obtain ⟨h1, h2⟩ := evCells_at es i hi
  obtain ⟨b, off, e, hb, c1⟩ := h _ _ h1
  obtain ⟨b', off', e', _, c2⟩ := h _ _ h2
  rw [e] at e'
  injection e' with e'; injection e' with q1 q2; subst q1; subst q2
  exact ⟨b, off, e, hb, c1, by rw [← Nat.add_assoc] at c2; exact c2⟩
theorem EvsAt.cells {w : World} {A : Option Addr} {es : List (Int × Int)} (h : EvsAt w A es) : CellsAt w A (evCells es) := fun j u hu => by
  have hj : j < es.length * 2 := by rw [← evCells_len]; exact (List.getElem?_eq_some_iff.1 hu).1
  obtain ⟨b, off, e, hb, c1, c2⟩ := h (j / 2) (by omega)
  obtain ⟨h1, h2⟩ := evCells_at es (j / 2) (by omega)
  refine ⟨b, off, e, hb, ?_⟩
  rcases Nat.mod_two_eq_zero_or_one j with hm | hm
  · have ej : j / 2 * 2 = j := by omega
    rw [ej] at h1 c1
    rw [c1, ← h1, hu]
  · have ej : j / 2 * 2 + 1 = j := by omega
    rw [ej] at h2
    rw [Nat.add_assoc, ej] at c2
    rw [c2, ← h2, hu]
end Go.Proofs.YtdedllfgeekogaaDoor
