/- An image is what it is. -/
import Derived.Test.YtalgnjdnanlidaaDoorRows
import Derived.Test.YtalgnjdnanlidaaDoorBase
import Derived.WalkKit
import Derived.DeepKeys
import Derived.WalkArith
namespace Go.Proofs.YtalgnjdnanlidaaDoor
open Go.RowKit
set_option maxRecDepth 100000
set_option linter.unusedVariables false

theorem imLits (n : ByteArray) (v : Int) (c : ByteArray) (hn : n.size ≤ 140737488351232) (hc : c.size ≤ 140737488351232) (iv : I64 v) :
    Tryd.prog.keyLits 2 31 [.string n, .int .i64 v, .string c] = some [.string n.data.toList, .int .i64 v, .string c.data.toList] := by
  have c2 : Program.cellsOf Tryd.prog 31 = 3 := by kernel_rfl
  have c4 : Program.cellsOf Tryd.prog 3 = 1 := by kernel_rfl
  have c5 : Program.cellsOf Tryd.prog 9 = 1 := by kernel_rfl
  have w : ∀ x, I64 x → (Lit.int .i64 x).wf = true := fun x hx => WalkArith.wf_i64 hx
  have m1 : n.size ≤ maxLen := by unfold maxLen; omega
  have m2 : c.size ≤ maxLen := by unfold maxLen; omega
  simp [Program.keyLits, Tryd.underlying31, Tryd.underlying3, Tryd.underlying9, c2, c4, c5, w v iv, m1, m2]
  try (repeat (rw [if_pos (by decide)]))
  try rfl
theorem neIm (n : ByteArray) (v : Int) (c : ByteArray) (hn : n.size ≤ 140737488351232) (hc : c.size ≤ 140737488351232) (iv : I64 v) (w : World) : (binOp .neq 31 (.agg #[.string n, .int .i64 v, .string c]) (.agg #[.string n, .int .i64 v, .string c])).run Tryd.prog w = .ok (.bool false) w := by
  have k := imLits n v c hn hc iv
  have f : Value.formed Tryd.prog 31 (.agg #[.string n, .int .i64 v, .string c]) = true := by
    have c1 : Program.cellsOf Tryd.prog 31 = 3 := by kernel_rfl
    simp [Value.formed, Tryd.underlying31, c1]
  obtain ⟨r, hr, hi⟩ := run_equalIn_deep (P := Tryd.prog) 9998 2 31 (by kernel_rfl) w 2 2 (.agg #[.string n, .int .i64 v, .string c]) (.agg #[.string n, .int .i64 v, .string c]) _ _ f f (by simpa [Value.cells] using k) (by simpa [Value.cells] using k)
  rw [hi.2 rfl] at hr
  have hr' : (Op.equalIn 10000 31 (.agg #[.string n, .int .i64 v, .string c]) (.agg #[.string n, .int .i64 v, .string c])).run Tryd.prog w = .ok true w := hr
  rw [run_neq_struct, hr']; rfl
theorem guardIm (x0 x1 x2 y0 y1 y2 : Value) (op : BinOp) (o p : Operand) (w : World) : (eqGuard op 31 o p (.agg #[x0, x1, x2]) (.agg #[y0, y1, y2])).run Tryd.prog w = .ok () w := by
  cases op <;> kernel_rfl
theorem eqIm (n : ByteArray) (v : Int) (c : ByteArray) (hn : n.size ≤ 140737488351232) (hc : c.size ≤ 140737488351232) (iv : I64 v) (w : World) : (binOp .eql 31 (.agg #[.string n, .int .i64 v, .string c]) (.agg #[.string n, .int .i64 v, .string c])).run Tryd.prog w = .ok (.bool true) w := by
  have k := imLits n v c hn hc iv
  have f : Value.formed Tryd.prog 31 (.agg #[.string n, .int .i64 v, .string c]) = true := by
    have c1 : Program.cellsOf Tryd.prog 31 = 3 := by kernel_rfl
    simp [Value.formed, Tryd.underlying31, c1]
  obtain ⟨r, hr, hi⟩ := run_equalIn_deep (P := Tryd.prog) 9998 2 31 (by kernel_rfl) w 2 2 (.agg #[.string n, .int .i64 v, .string c]) (.agg #[.string n, .int .i64 v, .string c]) _ _ f f (by simpa [Value.cells] using k) (by simpa [Value.cells] using k)
  rw [hi.2 rfl] at hr
  have hr' : (Op.equalIn 10000 31 (.agg #[.string n, .int .i64 v, .string c]) (.agg #[.string n, .int .i64 v, .string c])).run Tryd.prog w = .ok true w := hr
  rw [run_eql_struct, hr']; rfl

end Go.Proofs.YtalgnjdnanlidaaDoor
