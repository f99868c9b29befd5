/- What comes in: structs of whole numbers alone (seals, boxes, quotes). -/
import Derived.Test.YtdedllfgeekogaaGreatDoorOpen
namespace Go.Proofs.YtdedllfgeekogaaGreatDoor
open Go.ChangeShapes Go.WideShapes Go.ChangeAt Go.RowKit Go.WideMaps Go.WideElems
set_option maxRecDepth 100000

section
variable {w : World} {b0 : Nat} {v : Value}

theorem op_seal (hv : Value.okWide Tryz.prog w .any b0 30 v) : ∃ x0 x1, v = .agg #[.int .i64 x0, .int .i64 x1] ∧ I64 x0 ∧ I64 x1 := by
  simp only [Value.okWide, Tryz.underlying30] at hv
  obtain ⟨cs, rfl, hsz, ts, hts, _, hc⟩ := hv
  have e : Program.cellTypes Tryz.prog Tryz.prog.depth 30 = some [3, 3] := by kernel_rfl
  obtain rfl := Option.some.inj (hts.symm.trans e)
  have e8 : Program.cellsOf Tryz.prog 30 = 2 := by kernel_rfl
  rw [e8] at hsz
  have hi : ∀ i (h : i < 2), ∃ n, cs[i]'(by omega) = .int .i64 n ∧ I64 n := fun i h => by
    obtain ⟨u, hu, ho⟩ := hc i (cs[i]'(by omega)) (Array.getElem?_eq_getElem _)
    have : u = 3 := by
      match i, h, hu with
      | 0, _, hu | 1, _, hu => exact (Option.some.inj hu).symm
    subst this
    exact cell_int ho
  obtain ⟨x0, e10, k0⟩ := hi 0 (by omega)
  obtain ⟨x1, e11, k1⟩ := hi 1 (by omega)
  refine ⟨x0, x1, ?_, k0, k1⟩
  congr 1
  apply Array.ext (by simpa using hsz)
  intro i h1 h2
  have h3 : i < 2 := by omega
  match i, h3 with
  | 0, _ => exact e10
  | 1, _ => exact e11

theorem op_box (hv : Value.okWide Tryz.prog w .any b0 48 v) : ∃ x0 x1 x2, v = .agg #[.int .i64 x0, .int .i64 x1, .int .i64 x2] ∧ I64 x0 ∧ I64 x1 ∧ I64 x2 := by
  simp only [Value.okWide, Tryz.underlying48] at hv
  obtain ⟨cs, rfl, hsz, ts, hts, _, hc⟩ := hv
  have e : Program.cellTypes Tryz.prog Tryz.prog.depth 48 = some [3, 3, 3] := by kernel_rfl
  obtain rfl := Option.some.inj (hts.symm.trans e)
  have e8 : Program.cellsOf Tryz.prog 48 = 3 := by kernel_rfl
  rw [e8] at hsz
  have hi : ∀ i (h : i < 3), ∃ n, cs[i]'(by omega) = .int .i64 n ∧ I64 n := fun i h => by
    obtain ⟨u, hu, ho⟩ := hc i (cs[i]'(by omega)) (Array.getElem?_eq_getElem _)
    have : u = 3 := by
      match i, h, hu with
      | 0, _, hu | 1, _, hu | 2, _, hu => exact (Option.some.inj hu).symm
    subst this
    exact cell_int ho
  obtain ⟨x0, e10, k0⟩ := hi 0 (by omega)
  obtain ⟨x1, e11, k1⟩ := hi 1 (by omega)
  obtain ⟨x2, e12, k2⟩ := hi 2 (by omega)
  refine ⟨x0, x1, x2, ?_, k0, k1, k2⟩
  congr 1
  apply Array.ext (by simpa using hsz)
  intro i h1 h2
  have h3 : i < 3 := by omega
  match i, h3 with
  | 0, _ => exact e10
  | 1, _ => exact e11
  | 2, _ => exact e12

theorem op_quote (hv : Value.okWide Tryz.prog w .any b0 39 v) : ∃ x0 x1 x2 x3 x4, v = .agg #[.int .i64 x0, .int .i64 x1, .int .i64 x2, .int .i64 x3, .int .i64 x4] ∧ I64 x0 ∧ I64 x1 ∧ I64 x2 ∧ I64 x3 ∧ I64 x4 := by
  simp only [Value.okWide, Tryz.underlying39] at hv
  obtain ⟨cs, rfl, hsz, ts, hts, _, hc⟩ := hv
  have e : Program.cellTypes Tryz.prog Tryz.prog.depth 39 = some [3, 3, 3, 3, 3] := by kernel_rfl
  obtain rfl := Option.some.inj (hts.symm.trans e)
  have e8 : Program.cellsOf Tryz.prog 39 = 5 := by kernel_rfl
  rw [e8] at hsz
  have hi : ∀ i (h : i < 5), ∃ n, cs[i]'(by omega) = .int .i64 n ∧ I64 n := fun i h => by
    obtain ⟨u, hu, ho⟩ := hc i (cs[i]'(by omega)) (Array.getElem?_eq_getElem _)
    have : u = 3 := by
      match i, h, hu with
      | 0, _, hu | 1, _, hu | 2, _, hu | 3, _, hu | 4, _, hu => exact (Option.some.inj hu).symm
    subst this
    exact cell_int ho
  obtain ⟨x0, e10, k0⟩ := hi 0 (by omega)
  obtain ⟨x1, e11, k1⟩ := hi 1 (by omega)
  obtain ⟨x2, e12, k2⟩ := hi 2 (by omega)
  obtain ⟨x3, e13, k3⟩ := hi 3 (by omega)
  obtain ⟨x4, e14, k4⟩ := hi 4 (by omega)
  refine ⟨x0, x1, x2, x3, x4, ?_, k0, k1, k2, k3, k4⟩
  congr 1
  apply Array.ext (by simpa using hsz)
  intro i h1 h2
  have h3 : i < 5 := by omega
  match i, h3 with
  | 0, _ => exact e10
  | 1, _ => exact e11
  | 2, _ => exact e12
  | 3, _ => exact e13
  | 4, _ => exact e14
end
end Go.Proofs.YtdedllfgeekogaaGreatDoor
