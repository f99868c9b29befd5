/- What comes in: structs of whole numbers alone (seals, boxes, quotes). -/
import Derived.Test.YtebecndmlgolpaaDoorOpen
namespace Go.Proofs.YtebecndmlgolpaaDoor
open Go.ChangeShapes Go.WideShapes Go.ChangeAt Go.RowKit Go.WideMaps Go.WideElems
set_option maxRecDepth 100000

section
variable {w : World} {b0 : Nat} {v : Value}

theorem op_seal (hv : Value.okWide Tryd.prog w .any b0 36 v) : ∃ x0 x1, v = .agg #[.int .i64 x0, .int .i64 x1] ∧ I64 x0 ∧ I64 x1 := by
  simp only [Value.okWide, Tryd.underlying36] at hv
  obtain ⟨cs, rfl, hsz, ts, hts, _, hc⟩ := hv
  have e : Program.cellTypes Tryd.prog Tryd.prog.depth 36 = some [3, 3] := by kernel_rfl
  obtain rfl := Option.some.inj (hts.symm.trans e)
  have e8 : Program.cellsOf Tryd.prog 36 = 2 := by kernel_rfl
  rw [e8] at hsz
  have hi : ∀ i (h : i < 2), ∃ n, cs[i]'(by omega) = .int .i64 n ∧ I64 n := fun i h => by
    obtain ⟨u, hu, ho⟩ := hc i (cs[i]'(by omega)) (Array.getElem?_eq_getElem _)
    have : u = 3 := by
      match i, h, hu with
      | 0, _, hu | 1, _, hu => exact (Option.some.inj hu).symm
    subst this
    exact cell_int ho
  obtain ⟨x0, e10, k0⟩ := hi 0 (by omega)
  obtain ⟨x1, e11, k1⟩ := hi 1 (by omega)
  refine ⟨x0, x1, ?_, k0, k1⟩
  congr 1
  apply Array.ext (by simpa using hsz)
  intro i h1 h2
  have h3 : i < 2 := by omega
  match i, h3 with
  | 0, _ => exact e10
  | 1, _ => exact e11

theorem op_box (hv : Value.okWide Tryd.prog w .any b0 49 v) : ∃ x0 x1 x2, v = .agg #[.int .i64 x0, .int .i64 x1, .int .i64 x2] ∧ I64 x0 ∧ I64 x1 ∧ I64 x2 := by
  simp only [Value.okWide, Tryd.underlying49] at hv
  obtain ⟨cs, rfl, hsz, ts, hts, _, hc⟩ := hv
  have e : Program.cellTypes Tryd.prog Tryd.prog.depth 49 = some [3, 3, 3] := by kernel_rfl
  obtain rfl := Option.some.inj (hts.symm.trans e)
  have e8 : Program.cellsOf Tryd.prog 49 = 3 := by kernel_rfl
  rw [e8] at hsz
  have hi : ∀ i (h : i < 3), ∃ n, cs[i]'(by omega) = .int .i64 n ∧ I64 n := fun i h => by
    obtain ⟨u, hu, ho⟩ := hc i (cs[i]'(by omega)) (Array.getElem?_eq_getElem _)
    have : u = 3 := by
      match i, h, hu with
      | 0, _, hu | 1, _, hu | 2, _, hu => exact (Option.some.inj hu).symm
    subst this
    exact cell_int ho
  obtain ⟨x0, e10, k0⟩ := hi 0 (by omega)
  obtain ⟨x1, e11, k1⟩ := hi 1 (by omega)
  obtain ⟨x2, e12, k2⟩ := hi 2 (by omega)
  refine ⟨x0, x1, x2, ?_, k0, k1, k2⟩
  congr 1
  apply Array.ext (by simpa using hsz)
  intro i h1 h2
  have h3 : i < 3 := by omega
  match i, h3 with
  | 0, _ => exact e10
  | 1, _ => exact e11
  | 2, _ => exact e12

end
end Go.Proofs.YtebecndmlgolpaaDoor
