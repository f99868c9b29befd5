/- A signed image is what it is. -/
import Derived.Test.YtdedllfgeekogaaDoorRows
import Derived.Test.YtdedllfgeekogaaDoorBase
import Derived.WalkKit
import Derived.DeepKeys
import Derived.WalkArith
namespace Go.Proofs.YtdedllfgeekogaaDoor
open Go.RowKit
set_option maxRecDepth 100000

theorem sgLits (n : ByteArray) (v : Int) (c : ByteArray) (p a : Int) (hn : n.size ≤ 140737488351232) (hc : c.size ≤ 140737488351232) (iv : I64 v) (ip : I64 p) (ia : I64 a) :
    Tryd.prog.keyLits 3 34 [.string n, .int .i64 v, .string c, .int .i64 p, .int .i64 a] = some [.string n.data.toList, .int .i64 v, .string c.data.toList, .int .i64 p, .int .i64 a] := by
  have c1 : Program.cellsOf Tryd.prog 34 = 5 := by kernel_rfl
  have c2 : Program.cellsOf Tryd.prog 24 = 3 := by kernel_rfl
  have c3 : Program.cellsOf Tryd.prog 32 = 2 := by kernel_rfl
  have c4 : Program.cellsOf Tryd.prog 3 = 1 := by kernel_rfl
  have c5 : Program.cellsOf Tryd.prog 9 = 1 := by kernel_rfl
  have w : ∀ x, I64 x → (Lit.int .i64 x).wf = true := fun x hx => WalkArith.wf_i64 hx
  have m1 : n.size ≤ maxLen := by unfold maxLen; omega
  have m2 : c.size ≤ maxLen := by unfold maxLen; omega
  simp [Program.keyLits, Tryd.underlying34, Tryd.underlying24, Tryd.underlying32, Tryd.underlying3, Tryd.underlying9, c1, c2, c3, c4, c5, w v iv, w p ip, w a ia, m1, m2]
  repeat (rw [if_pos (by decide)])
  rfl
theorem eqSg_in (n : ByteArray) (v : Int) (c : ByteArray) (p a : Int) (hn : n.size ≤ 140737488351232) (hc : c.size ≤ 140737488351232) (iv : I64 v) (ip : I64 p) (ia : I64 a) (w : World) : (Op.equalIn 10000 34 (.agg #[.string n, .int .i64 v, .string c, .int .i64 p, .int .i64 a]) (.agg #[.string n, .int .i64 v, .string c, .int .i64 p, .int .i64 a])).run Tryd.prog w = .ok true w := by
  have k := sgLits n v c p a hn hc iv ip ia
  have f : Value.formed Tryd.prog 34 (.agg #[.string n, .int .i64 v, .string c, .int .i64 p, .int .i64 a]) = true := by
    have c1 : Program.cellsOf Tryd.prog 34 = 5 := by kernel_rfl
    simp [Value.formed, Tryd.underlying34, c1]
  obtain ⟨r, hr, hi⟩ := run_equalIn_deep (P := Tryd.prog) 9997 3 34 (by kernel_rfl) w 3 3 (.agg #[.string n, .int .i64 v, .string c, .int .i64 p, .int .i64 a]) (.agg #[.string n, .int .i64 v, .string c, .int .i64 p, .int .i64 a]) _ _ f f (by simpa [Value.cells] using k) (by simpa [Value.cells] using k)
  rw [hi.2 rfl] at hr
  exact hr
theorem eqSg (n : ByteArray) (v : Int) (c : ByteArray) (p a : Int) (hn : n.size ≤ 140737488351232) (hc : c.size ≤ 140737488351232) (iv : I64 v) (ip : I64 p) (ia : I64 a) (w : World) : (binOp .eql 34 (.agg #[.string n, .int .i64 v, .string c, .int .i64 p, .int .i64 a]) (.agg #[.string n, .int .i64 v, .string c, .int .i64 p, .int .i64 a])).run Tryd.prog w = .ok (.bool true) w := by
  rw [run_eql_struct, eqSg_in n v c p a hn hc iv ip ia]; rfl
theorem neSg (n : ByteArray) (v : Int) (c : ByteArray) (p a : Int) (hn : n.size ≤ 140737488351232) (hc : c.size ≤ 140737488351232) (iv : I64 v) (ip : I64 p) (ia : I64 a) (w : World) : (binOp .neq 34 (.agg #[.string n, .int .i64 v, .string c, .int .i64 p, .int .i64 a]) (.agg #[.string n, .int .i64 v, .string c, .int .i64 p, .int .i64 a])).run Tryd.prog w = .ok (.bool false) w := by
  rw [run_neq_struct, eqSg_in n v c p a hn hc iv ip ia]; rfl
theorem guardSg (x0 x1 x2 x3 x4 y0 y1 y2 y3 y4 : Value) (op : BinOp) (o p : Operand) (w : World) : (eqGuard op 34 o p (.agg #[x0, x1, x2, x3, x4]) (.agg #[y0, y1, y2, y3, y4])).run Tryd.prog w = .ok () w := by
  cases op <;> kernel_rfl

end Go.Proofs.YtdedllfgeekogaaDoor
