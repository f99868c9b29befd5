/- errors.As at a target of a struct that holds an error: it is one, or it is not. -/
import Derived.Test.YtegiffdlfpdbkaaGreatDoorRows
import Derived.Test.YtegiffdlfpdbkaaGreatDoorBase
import Derived.Test.YtegiffdlfpdbkaaGreatDoorTold
import Derived.WalkKit
import Derived.LaidEql
import Derived.Stop.Asserts
import Derived.RowKitTokens
import Derived.Lib.Hide
namespace Go.Proofs.YtegiffdlfpdbkaaGreatDoor
open Go.RowKit Go.Extern.Stop Go.Stop Go.Extern
set_option maxRecDepth 100000
set_option linter.unusedVariables false
set_option linter.unusedSimpArgs false

theorem AsB.valueOfP (t : Addr) (w : World) : (ReflectliteValue.unpack (.iface 81 (.pointer (some t)))).run Tryz.prog w
    = .ok (.agg #[.pointer (some ⟨10, 81, none⟩), .pointer (some ⟨w.heap.size, 0, none⟩), .int .u64 150]) (w.alloc (.cells #[.pointer (some t)] 81)) := by kernel_rfl
theorem AsB.typeP (a : Addr) (w : World) : (ReflectliteValue.methodAny (ReflectliteValue.valueError "reflectlite.Value.Type" 0) (fun t _ _ _ => ReflectliteType.toType t) #[.agg #[.pointer (some ⟨10, 81, none⟩), .pointer (some a), .int .u64 150]]).run Tryz.prog w
    = .ok (.iface 123 (.agg #[.pointer (some ⟨10, 81, none⟩)])) w := by kernel_rfl
theorem AsB.methodKind (h : Value) (w : World) : (Go.method 318 123 (.agg #[h]) "Kind").run Tryz.prog w = .ok (150, h) w := by kernel_rfl
theorem AsB.kindP (w : World) : ((ReflectliteType.abiMethod fun t => (fun a : Nat => Value.int IntKind.u8 (a : Int)) <$> Rtype.kind t) #[.pointer (some ⟨10, 81, none⟩)]).run Tryz.prog w = .ok (.int .u8 22) w := by kernel_rfl
theorem AsB.kindE (w : World) : ((ReflectliteType.abiMethod fun t => (fun a : Nat => Value.int IntKind.u8 (a : Int)) <$> Rtype.kind t) #[.pointer (some ⟨10, 78, none⟩)]).run Tryz.prog w = .ok (.int .u8 25) w := by kernel_rfl
theorem AsB.partsP (a : Addr) (w : World) : (ReflectliteValue.parts (.agg #[.pointer (some ⟨10, 81, none⟩), .pointer (some a), .int .u64 150])).run Tryz.prog w = .ok (some (81, a, 150)) w := by kernel_rfl
theorem AsB.isNilP (a p : Addr) (W : World) (ha : W.cell? a = some (.pointer (some p))) :
    (ReflectliteValue.method (ReflectliteValue.valueError "reflectlite.Value.IsNil" 0) ReflectliteValue.isNil #[.agg #[.pointer (some ⟨10, 81, none⟩), .pointer (some a), .int .u64 150]]).run Tryz.prog W = .ok (.bool false) W := by
  rw [rlm]
  simp only [Sem.run_bind, AsB.partsP, Result.andThen]
  simp [ReflectliteValue.isNil, loadVar, isAgg, underlying, Tryz.underlying81, ha, Result.andThen]
theorem AsB.methodElem (h : Value) (w : World) : (Go.method 318 123 (.agg #[h]) "Elem").run Tryz.prog w = .ok (161, .agg #[h]) w := by kernel_rfl
theorem AsB.methodImplements (h : Value) (w : World) : (Go.method 318 123 (.agg #[h]) "Implements").run Tryz.prog w = .ok (162, .agg #[h]) w := by kernel_rfl
theorem AsB.methodAssignableTo (h : Value) (w : World) : (Go.method 318 123 (.agg #[h]) "AssignableTo").run Tryz.prog w = .ok (159, .agg #[h]) w := by kernel_rfl
theorem AsB.elemP (w : World) : (ReflectliteType.method ReflectliteType.elem #[.agg #[.pointer (some ⟨10, 81, none⟩)]]).run Tryz.prog w = .ok (.iface 123 (.agg #[.pointer (some ⟨10, 78, none⟩)])) w := by kernel_rfl
theorem AsB.implementsE (w : World) : (ReflectliteType.relation "Implements" ReflectliteType.implements_ #[.agg #[.pointer (some ⟨10, 78, none⟩)], .iface 123 (.agg #[.pointer (some ⟨10, 50, none⟩)])]).run Tryz.prog w = .ok (.bool true) w := by kernel_rfl
theorem AsB.typeOfE (v : Value) (w : World) : (ReflectliteType.typeOf #[.iface 78 v]).run Tryz.prog w = .ok (.iface 123 (.agg #[.pointer (some ⟨10, 78, none⟩)])) w := by kernel_rfl
theorem AsB.assignableE (w : World) : (ReflectliteType.relation "AssignableTo" ReflectliteType.assignableTo #[.agg #[.pointer (some ⟨10, 78, none⟩)], .iface 123 (.agg #[.pointer (some ⟨10, 78, none⟩)])]).run Tryz.prog w = .ok (.bool true) w := by kernel_rfl
theorem AsB.valueOfE (k : Value) (w : World) : (ReflectliteValue.unpack (.iface 78 (.agg #[k]))).run Tryz.prog w
    = .ok (.agg #[.pointer (some ⟨10, 78, none⟩), .pointer (some ⟨w.heap.size, 0, none⟩), .int .u64 153]) (w.alloc (.cells #[k] 78)) := by kernel_rfl
theorem AsB.elemOfP (w : World) : (Rtype.elem? 81).run Tryz.prog w = .ok (some 78) w := by kernel_rfl
theorem AsB.mkE (p : Addr) (w : World) : (ReflectliteValue.mk 78 p ReflectliteValue.flagAddr).run Tryz.prog w = .ok (.agg #[.pointer (some ⟨10, 78, none⟩), .pointer (some p), .int .u64 409]) w := by kernel_rfl
theorem AsB.elemV (a p : Addr) (W : World) (ha : W.cell? a = some (.pointer (some p))) :
    (ReflectliteValue.method (ReflectliteValue.valueError "reflectlite.Value.Elem" 0) ReflectliteValue.elem #[.agg #[.pointer (some ⟨10, 81, none⟩), .pointer (some a), .int .u64 150]]).run Tryz.prog W
      = .ok (.agg #[.pointer (some ⟨10, 78, none⟩), .pointer (some p), .int .u64 409]) W := by
  rw [rlm]
  simp only [Sem.run_bind, AsB.partsP, Result.andThen]
  simp [ReflectliteValue.elem, loadVar, isAgg, underlying, Tryz.underlying81, ha, Result.andThen, AsB.elemOfP, AsB.mkE]
theorem AsB.partsEa (a : Addr) (w : World) : (ReflectliteValue.parts (.agg #[.pointer (some ⟨10, 78, none⟩), .pointer (some a), .int .u64 409])).run Tryz.prog w = .ok (some (78, a, 409)) w := by kernel_rfl
theorem AsB.partsE (a : Addr) (w : World) : (ReflectliteValue.parts (.agg #[.pointer (some ⟨10, 78, none⟩), .pointer (some a), .int .u64 153])).run Tryz.prog w = .ok (some (78, a, 153)) w := by kernel_rfl
theorem AsB.directE (w : World) : (Rtype.directlyAssignable 78 78).run Tryz.prog w = .ok true w := by kernel_rfl
theorem AsB.setE (ta b : Addr) (v : Value) (old : Value) (W : World) (hb : W.cell? b = some v) (hb0 : b.add 0 = b) (ha0 : ta.add 0 = ta) (ht : W.cell? ta = some old) (hf : W.frozen? ta = false) (hv : v.oneCell' = true) :
    (ReflectliteValue.set #[.agg #[.pointer (some ⟨10, 78, none⟩), .pointer (some ta), .int .u64 409], .agg #[.pointer (some ⟨10, 78, none⟩), .pointer (some b), .int .u64 153]]).run Tryz.prog W
      = .ok (.tuple #[]) (W.setCell ta v) := by
  rw [rls]
  simp only [Sem.run_bind, AsB.partsEa, AsB.partsE, Result.andThen]
  simp [ReflectliteValue.flagAddr, loadVar, isAgg, underlying, Tryz.underlying78, hb, Result.andThen, AsB.directE, storeVar, Value.cells, storeCells, loadCells, Addr.add]
  have hl : (loadCellsFrom b 0 1 #[]).run Tryz.prog W = .ok #[v] W := by
    have h0 : ∀ j, j < 1 → W.cell? (b.add (0 + j)) = some v := fun j hj => by
      obtain rfl : j = 0 := by omega
      rw [hb0]; exact hb
    have := run_loadCellsFrom (P := Tryz.prog) W b (fun _ => v) 1 0 #[] h0
    simpa using this
  rw [hl]
  simp [storeCells, Result.andThen, ha0]
  rw [run_store Tryz.prog W ta _ _ hv]
  simp [ht, hf]

set_option maxHeartbeats 4000000 in
theorem asB_hit (x : Value) (tb : Nat) (old : Value) (w : World) (hg : Door w) (ht0 : w.cell? ⟨tb, 0, none⟩ = some old) (hf0 : w.frozen? ⟨tb, 0, none⟩ = false) (hx1 : x.oneCell' = true) :
    Calls Tryz.prog 34 #[.iface 78 (.agg #[x]), .iface 81 (.pointer (some ⟨tb, 0, none⟩))] w fun ev w' => ev = .returned (.bool true) ∧ w' = ((((w.alloc (.cells #[.pointer (some ⟨tb, 0, none⟩)] 81)).alloc (.cells #[.pointer (some ⟨10, 81, none⟩), .pointer (some ⟨w.heap.size, 0, none⟩), .int .u64 150] 99)).alloc (.cells #[.pointer (some ⟨10, 81, none⟩), .pointer (some ⟨w.heap.size, 0, none⟩), .int .u64 150] 99)).alloc (.cells #[x] 78)).setCell ⟨tb, 0, none⟩ x := by
  have h6 := @run_callFunc_extern Tryz.prog 50 _ (fun args => ReflectliteValue.unpack (args.getD 0 (.tuple #[]))) Tryz.func50 (by kernel_rfl) (by kernel_rfl) (by kernel_rfl) (by kernel_rfl)
  have h7 := @run_callFunc_extern Tryz.prog 51 _ (ReflectliteValue.methodAny (ReflectliteValue.valueError "reflectlite.Value.Type" 0) (fun t _ _ _ => ReflectliteType.toType t)) Tryz.func51 (by kernel_rfl) (by kernel_rfl) (by kernel_rfl) (by kernel_rfl)
  have h8 := @run_callFunc_extern Tryz.prog 52 _ (ReflectliteValue.method (ReflectliteValue.valueError "reflectlite.Value.IsNil" 0) ReflectliteValue.isNil) Tryz.func52 (by kernel_rfl) (by kernel_rfl) (by kernel_rfl) (by kernel_rfl)
  have hK := @run_callFunc_extern Tryz.prog 150 _ (ReflectliteType.abiMethod fun t => do pure (.int .u8 (← Rtype.kind t))) Tryz.func150 (by kernel_rfl) (by kernel_rfl) (by kernel_rfl) (by kernel_rfl)
  have hE := @run_callFunc_extern Tryz.prog 161 _ (ReflectliteType.method ReflectliteType.elem) Tryz.func161 (by kernel_rfl) (by kernel_rfl) (by kernel_rfl) (by kernel_rfl)
  have hI := @run_callFunc_extern Tryz.prog 162 _ (ReflectliteType.relation "Implements" ReflectliteType.implements_) Tryz.func162 (by kernel_rfl) (by kernel_rfl) (by kernel_rfl) (by kernel_rfl)
  have h10 := @run_callFunc_extern Tryz.prog 69 _ ReflectliteType.typeOf Tryz.func69 (by kernel_rfl) (by kernel_rfl) (by kernel_rfl) (by kernel_rfl)
  have hAs := @run_callFunc_extern Tryz.prog 159 _ (ReflectliteType.relation "AssignableTo" ReflectliteType.assignableTo) Tryz.func159 (by kernel_rfl) (by kernel_rfl) (by kernel_rfl) (by kernel_rfl)
  have h11 := @run_callFunc_extern Tryz.prog 70 _ (ReflectliteValue.method (ReflectliteValue.valueError "reflectlite.Value.Elem" 0) ReflectliteValue.elem) Tryz.func70 (by kernel_rfl) (by kernel_rfl) (by kernel_rfl) (by kernel_rfl)
  have h12 := @run_callFunc_extern Tryz.prog 71 _ ReflectliteValue.set Tryz.func71 (by kernel_rfl) (by kernel_rfl) (by kernel_rfl) (by kernel_rfl)
  have tO := AsB.typeOfE
  have mA := AsB.methodAssignableTo
  have aE := AsB.assignableE
  have vE := AsB.valueOfE
  have fP := AsB.valueOfP
  have tP := AsB.typeP
  have mK := AsB.methodKind
  have mE := AsB.methodElem
  have mI := AsB.methodImplements
  have kP := AsB.kindP
  have kE := AsB.kindE
  have eP := AsB.elemP
  have iE := AsB.implementsE
  have n8 := AsB.isNilP ⟨w.heap.size, 0, none⟩ ⟨tb, 0, none⟩ ((w.alloc (.cells #[.pointer (some ⟨tb, 0, none⟩)] 81)).alloc (.cells #[.pointer (some ⟨10, 81, none⟩), .pointer (some ⟨w.heap.size, 0, none⟩), .int .u64 150] 99)) (by simp)
  have hlt := hg.lt
  have hg2 : ((w.alloc (.cells #[.pointer (some ⟨tb, 0, none⟩)] 81)).alloc (.cells #[.pointer (some ⟨10, 81, none⟩), .pointer (some ⟨w.heap.size, 0, none⟩), .int .u64 150] 99)).cell? ⟨1, 0, none⟩ = some (.iface 123 (.agg #[.pointer (some ⟨10, 50, none⟩)])) :=
    hg.below (grow_alloc (grow_alloc (grow_refl w) _) _)
  have htl : tb < w.heap.size := by
    rcases Nat.lt_or_ge tb w.heap.size with h | h
    · exact h
    · simp [World.cell?, Array.getElem?_eq_none h] at ht0
  have el := AsB.elemV ⟨w.heap.size, 0, none⟩ ⟨tb, 0, none⟩ (((w.alloc (.cells #[.pointer (some ⟨tb, 0, none⟩)] 81)).alloc (.cells #[.pointer (some ⟨10, 81, none⟩), .pointer (some ⟨w.heap.size, 0, none⟩), .int .u64 150] 99)).alloc (.cells #[.pointer (some ⟨10, 81, none⟩), .pointer (some ⟨w.heap.size, 0, none⟩), .int .u64 150] 99)) (by rw [World.cell?_alloc_lt _ _ ⟨w.heap.size, 0, none⟩ (by simp; omega)]; simp)
  have st := AsB.setE ⟨tb, 0, none⟩ ⟨w.heap.size + 1 + 1 + 1, 0, none⟩ x old ((((w.alloc (.cells #[.pointer (some ⟨tb, 0, none⟩)] 81)).alloc (.cells #[.pointer (some ⟨10, 81, none⟩), .pointer (some ⟨w.heap.size, 0, none⟩), .int .u64 150] 99)).alloc (.cells #[.pointer (some ⟨10, 81, none⟩), .pointer (some ⟨w.heap.size, 0, none⟩), .int .u64 150] 99)).alloc (.cells #[x] 78))
    (by rw [World.cell?_alloc_at _ _ _ _ (by simp)]; rfl) rfl rfl
    (by rw [World.cell?_alloc_lt _ _ ⟨tb, 0, none⟩ (by simp; omega), World.cell?_alloc_lt _ _ ⟨tb, 0, none⟩ (by simp; omega), World.cell?_alloc_lt _ _ ⟨tb, 0, none⟩ (by simp; omega), World.cell?_alloc_lt _ _ ⟨tb, 0, none⟩ htl]; exact ht0)
    (by rw [World.frozen?_alloc_old _ _ ⟨tb, 0, none⟩ (by simp; omega), World.frozen?_alloc_old _ _ ⟨tb, 0, none⟩ (by simp; omega), World.frozen?_alloc_old _ _ ⟨tb, 0, none⟩ (by simp; omega), World.frozen?_alloc_old _ _ ⟨tb, 0, none⟩ (Nat.ne_of_lt htl)]; exact hf0) hx1
  clear hg
  go_enter Tryz.func34, Tryz.ntmps34
  go_wp2
  refine wp_loop_rounds 1 ?_
  rw [rounds_succ]
  go_wp2
  go_ret
  exact ⟨rfl, rfl⟩


theorem AsB.typeOfM (v : Value) (w : World) : (ReflectliteType.typeOf #[.iface 79 v]).run Tryz.prog w = .ok (.iface 123 (.agg #[.pointer (some ⟨10, 79, none⟩)])) w := by kernel_rfl
theorem AsB.assignableM (w : World) : (ReflectliteType.relation "AssignableTo" ReflectliteType.assignableTo #[.agg #[.pointer (some ⟨10, 79, none⟩)], .iface 123 (.agg #[.pointer (some ⟨10, 78, none⟩)])]).run Tryz.prog w = .ok (.bool false) w := by kernel_rfl
theorem AsB.noAs (v : Value) (xT : TypeId) (w : World) : (Instr.typeAssert (.iface 79 v) xT 128 true).run Tryz.prog w = .ok (.tuple #[.nilIface, .bool false]) w := run_typeAssert_lacksB Tryz.underlying128 (by kernel_rfl) (by kernel_rfl) v xT w
theorem AsB.noUn (v : Value) (xT : TypeId) (w : World) : (Instr.typeAssert (.iface 79 v) xT 131 true).run Tryz.prog w = .ok (.tuple #[.nilIface, .bool false]) w := run_typeAssert_lacksB Tryz.underlying131 (by kernel_rfl) (by kernel_rfl) v xT w
theorem AsB.noUns (v : Value) (xT : TypeId) (w : World) : (Instr.typeAssert (.iface 79 v) xT 133 true).run Tryz.prog w = .ok (.tuple #[.nilIface, .bool false]) w := run_typeAssert_lacksB Tryz.underlying133 (by kernel_rfl) (by kernel_rfl) v xT w

theorem asNil (v : Value) (w : World) : Calls Tryz.prog 34 #[.nilIface, v] w fun ev w' => ev = .returned (.bool false) ∧ w' = w := by
  go_enter Tryz.func34, Tryz.ntmps34
  go_wp2
  go_ret
  exact ⟨rfl, rfl⟩

set_option maxHeartbeats 4000000 in
theorem asB_miss (k : Int) (tb : Nat) (w : World) (hg : Door w) :
    Calls Tryz.prog 34 #[.iface 79 (.int .i64 k), .iface 81 (.pointer (some ⟨tb, 0, none⟩))] w fun ev w' => ev = .returned (.bool false) ∧ w' = ((w.alloc (.cells #[.pointer (some ⟨tb, 0, none⟩)] 81)).alloc (.cells #[.pointer (some ⟨10, 81, none⟩), .pointer (some ⟨w.heap.size, 0, none⟩), .int .u64 150] 99)).alloc (.cells #[.pointer (some ⟨10, 81, none⟩), .pointer (some ⟨w.heap.size, 0, none⟩), .int .u64 150] 99) := by
  have h6 := @run_callFunc_extern Tryz.prog 50 _ (fun args => ReflectliteValue.unpack (args.getD 0 (.tuple #[]))) Tryz.func50 (by kernel_rfl) (by kernel_rfl) (by kernel_rfl) (by kernel_rfl)
  have h7 := @run_callFunc_extern Tryz.prog 51 _ (ReflectliteValue.methodAny (ReflectliteValue.valueError "reflectlite.Value.Type" 0) (fun t _ _ _ => ReflectliteType.toType t)) Tryz.func51 (by kernel_rfl) (by kernel_rfl) (by kernel_rfl) (by kernel_rfl)
  have h8 := @run_callFunc_extern Tryz.prog 52 _ (ReflectliteValue.method (ReflectliteValue.valueError "reflectlite.Value.IsNil" 0) ReflectliteValue.isNil) Tryz.func52 (by kernel_rfl) (by kernel_rfl) (by kernel_rfl) (by kernel_rfl)
  have hK := @run_callFunc_extern Tryz.prog 150 _ (ReflectliteType.abiMethod fun t => do pure (.int .u8 (← Rtype.kind t))) Tryz.func150 (by kernel_rfl) (by kernel_rfl) (by kernel_rfl) (by kernel_rfl)
  have hE := @run_callFunc_extern Tryz.prog 161 _ (ReflectliteType.method ReflectliteType.elem) Tryz.func161 (by kernel_rfl) (by kernel_rfl) (by kernel_rfl) (by kernel_rfl)
  have hI := @run_callFunc_extern Tryz.prog 162 _ (ReflectliteType.relation "Implements" ReflectliteType.implements_) Tryz.func162 (by kernel_rfl) (by kernel_rfl) (by kernel_rfl) (by kernel_rfl)
  have h10 := @run_callFunc_extern Tryz.prog 69 _ ReflectliteType.typeOf Tryz.func69 (by kernel_rfl) (by kernel_rfl) (by kernel_rfl) (by kernel_rfl)
  have hAs := @run_callFunc_extern Tryz.prog 159 _ (ReflectliteType.relation "AssignableTo" ReflectliteType.assignableTo) Tryz.func159 (by kernel_rfl) (by kernel_rfl) (by kernel_rfl) (by kernel_rfl)
  have h11 := @run_callFunc_extern Tryz.prog 70 _ (ReflectliteValue.method (ReflectliteValue.valueError "reflectlite.Value.Elem" 0) ReflectliteValue.elem) Tryz.func70 (by kernel_rfl) (by kernel_rfl) (by kernel_rfl) (by kernel_rfl)
  have h12 := @run_callFunc_extern Tryz.prog 71 _ ReflectliteValue.set Tryz.func71 (by kernel_rfl) (by kernel_rfl) (by kernel_rfl) (by kernel_rfl)
  have tO := AsB.typeOfM
  have mA := AsB.methodAssignableTo
  have aE := AsB.assignableM
  have q1 := AsB.noAs
  have q2 := AsB.noUn
  have q3 := AsB.noUns
  have fP := AsB.valueOfP
  have tP := AsB.typeP
  have mK := AsB.methodKind
  have mE := AsB.methodElem
  have mI := AsB.methodImplements
  have kP := AsB.kindP
  have kE := AsB.kindE
  have eP := AsB.elemP
  have iE := AsB.implementsE
  have n8 := AsB.isNilP ⟨w.heap.size, 0, none⟩ ⟨tb, 0, none⟩ ((w.alloc (.cells #[.pointer (some ⟨tb, 0, none⟩)] 81)).alloc (.cells #[.pointer (some ⟨10, 81, none⟩), .pointer (some ⟨w.heap.size, 0, none⟩), .int .u64 150] 99)) (by simp)
  have hlt := hg.lt
  have hg2 : ((w.alloc (.cells #[.pointer (some ⟨tb, 0, none⟩)] 81)).alloc (.cells #[.pointer (some ⟨10, 81, none⟩), .pointer (some ⟨w.heap.size, 0, none⟩), .int .u64 150] 99)).cell? ⟨1, 0, none⟩ = some (.iface 123 (.agg #[.pointer (some ⟨10, 50, none⟩)])) :=
    hg.below (grow_alloc (grow_alloc (grow_refl w) _) _)
  clear hg
  go_enter Tryz.func34, Tryz.ntmps34
  go_wp2
  refine wp_loop_rounds 1 ?_
  rw [rounds_succ]
  go_wp2
  go_ret
  exact ⟨rfl, rfl⟩


end Go.Proofs.YtegiffdlfpdbkaaGreatDoor
