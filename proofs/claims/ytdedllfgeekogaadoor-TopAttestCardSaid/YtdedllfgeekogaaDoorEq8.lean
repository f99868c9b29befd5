/- Two banks, held side by side. -/
import Derived.Test.YtdedllfgeekogaaDoorRows
import Derived.Test.YtdedllfgeekogaaDoorBase
import Derived.WalkKit
import Derived.ChangeKeysEq
namespace Go.Proofs.YtdedllfgeekogaaDoor
open Go.RowKit
set_option maxRecDepth 100000

theorem part8 (cs : Array Value) (off : Nat) (v : Value) (h : cs[off]? = some v) (w : World) : (part 3 cs off).run Tryd.prog w = .ok v w := by
  have ha : ∀ w, (isAgg 3).run Tryd.prog w = .ok false w := fun w => by kernel_rfl
  unfold part
  simp [Sem.run_bind, ha, h]

theorem items8 (d : Nat) (w : World) (xs ys : Array Value) (a b : Nat → Int) : ∀ is : List Nat, (∀ i ∈ is, xs[i]? = some (.int .i64 (a i)) ∧ ys[i]? = some (.int .i64 (b i))) →
    (Op.eqItems (d + 1) 3 1 xs ys is).run Tryd.prog w = .ok (is.all fun i => a i == b i) w
  | [], _ => by simp [Op.eqItems]
  | i :: is, h => by
    obtain ⟨h1, h2⟩ := h i (List.mem_cons_self ..)
    have ih := items8 d w xs ys a b is (fun j hj => h j (List.mem_cons_of_mem _ hj))
    have p1 := part8 xs (i * 1) _ (by rw [Nat.mul_one]; exact h1) w
    have p2 := part8 ys (i * 1) _ (by rw [Nat.mul_one]; exact h2) w
    simp only [Op.eqItems, Sem.run_bind, p1, p2, Result.andThen_ok, run_equalIn_int w d 3 .i64 .i64 _ _ Tryd.underlying3]
    cases h : (a i == b i)
    · simp [h]
    · simp [h, ih]

theorem run_eq8 (x0 x1 x2 x3 x4 x5 x6 x7 : Int) (y0 y1 y2 y3 y4 y5 y6 y7 : Int) (d : Nat) (w : World) :
    (Op.equalIn (d + 2) 38 (.agg #[.int .i64 x0, .int .i64 x1, .int .i64 x2, .int .i64 x3, .int .i64 x4, .int .i64 x5, .int .i64 x6, .int .i64 x7]) (.agg #[.int .i64 y0, .int .i64 y1, .int .i64 y2, .int .i64 y3, .int .i64 y4, .int .i64 y5, .int .i64 y6, .int .i64 y7])).run Tryd.prog w = .ok ([x0, x1, x2, x3, x4, x5, x6, x7] == [y0, y1, y2, y3, y4, y5, y6, y7]) w := by
  obtain ⟨i0, hi, _, _, _⟩ := info_parts (P := Tryd.prog) (e := 3) (z := .int .i64 0) (size := 1) (bytes := 8) (by kernel_rfl)
  have hc : Program.cellsOf Tryd.prog 3 = 1 := by kernel_rfl
  rw [run_equalIn_array w (d + 1) _ _ Tryd.underlying38 hi, hc, items8 d w _ _ (fun i => ([x0, x1, x2, x3, x4, x5, x6, x7]).getD i 0) (fun i => ([y0, y1, y2, y3, y4, y5, y6, y7]).getD i 0) (List.range 8) (fun i hm => by
    have h8 : i < 8 := by simpa using hm
    match i, h8 with
    | 0, _ | 1, _ | 2, _ | 3, _ | 4, _ | 5, _ | 6, _ | 7, _ => exact ⟨rfl, rfl⟩)]
  congr 1

theorem run_eq8_eql (x0 x1 x2 x3 x4 x5 x6 x7 : Int) (y0 y1 y2 y3 y4 y5 y6 y7 : Int) (w : World) : (binOp .eql 38 (.agg #[.int .i64 x0, .int .i64 x1, .int .i64 x2, .int .i64 x3, .int .i64 x4, .int .i64 x5, .int .i64 x6, .int .i64 x7]) (.agg #[.int .i64 y0, .int .i64 y1, .int .i64 y2, .int .i64 y3, .int .i64 y4, .int .i64 y5, .int .i64 y6, .int .i64 y7])).run Tryd.prog w = .ok (.bool ([x0, x1, x2, x3, x4, x5, x6, x7] == [y0, y1, y2, y3, y4, y5, y6, y7])) w := by
  rw [run_eql_struct]
  rw [run_eq8]; rfl
theorem run_eq8_neq (x0 x1 x2 x3 x4 x5 x6 x7 : Int) (y0 y1 y2 y3 y4 y5 y6 y7 : Int) (w : World) : (binOp .neq 38 (.agg #[.int .i64 x0, .int .i64 x1, .int .i64 x2, .int .i64 x3, .int .i64 x4, .int .i64 x5, .int .i64 x6, .int .i64 x7]) (.agg #[.int .i64 y0, .int .i64 y1, .int .i64 y2, .int .i64 y3, .int .i64 y4, .int .i64 y5, .int .i64 y6, .int .i64 y7])).run Tryd.prog w = .ok (.bool (!([x0, x1, x2, x3, x4, x5, x6, x7] == [y0, y1, y2, y3, y4, y5, y6, y7]))) w := by
  rw [run_neq_struct]
  rw [run_eq8]; rfl
theorem run_eq8_guard (x0 x1 x2 x3 x4 x5 x6 x7 : Int) (y0 y1 y2 y3 y4 y5 y6 y7 : Int) (op : BinOp) (o p : Operand) (w : World) : (eqGuard op 38 o p (.agg #[.int .i64 x0, .int .i64 x1, .int .i64 x2, .int .i64 x3, .int .i64 x4, .int .i64 x5, .int .i64 x6, .int .i64 x7]) (.agg #[.int .i64 y0, .int .i64 y1, .int .i64 y2, .int .i64 y3, .int .i64 y4, .int .i64 y5, .int .i64 y6, .int .i64 y7])).run Tryd.prog w = .ok () w := by
  cases op <;> kernel_rfl

end Go.Proofs.YtdedllfgeekogaaDoor
