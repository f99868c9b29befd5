/- What comes in, opened by its type: integers, bytes, texts, lists of integers, banks. -/
import Derived.Test.YtkipjloapdolbaaDoorRows
import Derived.Test.YtkipjloapdolbaaDoorBase
import Derived.Test.YtkipjloapdolbaaDoorLift
import Derived.Deep.Slices
namespace Go.Proofs.YtkipjloapdolbaaDoor
open Go.ChangeShapes Go.WideShapes Go.ChangeAt Go.RowKit Go.WideMaps Go.WideElems
open Go.ChangeMaps (open_string)
set_option maxRecDepth 100000

theorem i64_of_wf {n : Int} (h : (Lit.int .i64 n).wf = true) : I64 n := by
  simp only [Lit.wf, Bool.and_eq_true, decide_eq_true_eq] at h
  have e1 : IntKind.i64.min = -9223372036854775808 := by decide
  have e2 : IntKind.i64.max = 9223372036854775807 := by decide
  rw [e1, e2] at h
  exact h

section
variable {H : Type} {enc : TypeId × Value → H} {w : World} {b0 : Nat} {v : Value} {d : DataW H} {ps : List MemPlace}

theorem op_int (hv : Value.okWide Tryd.prog w .any b0 3 v) (h : DataW.Trod enc Tryd.prog w 0 (fun _ => true) true 3 v d ps) : ∃ n, v = .int .i64 n ∧ I64 n := by
  obtain ⟨n, rfl, _, _, wn⟩ := open_int Tryd.underlying3 hv h
  exact ⟨n, rfl, i64_of_wf wn⟩

theorem op_bool (hv : Value.okWide Tryd.prog w .any b0 4 v) (h : DataW.Trod enc Tryd.prog w 0 (fun _ => true) true 4 v d ps) : ∃ b, v = .bool b := by
  obtain ⟨b, rfl, _, _⟩ := open_bool Tryd.underlying4 hv h
  exact ⟨b, rfl⟩

theorem op_byte (hv : Value.okWide Tryd.prog w .any b0 5 v) (h : DataW.Trod enc Tryd.prog w 0 (fun _ => true) true 5 v d ps) : ∃ c : UInt8, v = .int .u8 (c.toNat : Int) := by
  obtain ⟨n, rfl, _, _, wn⟩ := open_int Tryd.underlying5 hv h
  simp only [Lit.wf, Bool.and_eq_true, decide_eq_true_eq] at wn
  have e1 : IntKind.u8.min = 0 := by decide
  have e2 : IntKind.u8.max = 255 := by decide
  rw [e1, e2] at wn
  refine ⟨UInt8.ofNat n.toNat, ?_⟩
  have : (UInt8.ofNat n.toNat).toNat = n.toNat := by rw [UInt8.toNat_ofNat']; omega
  rw [this]; congr 1; omega

theorem op_str (hv : Value.okWide Tryd.prog w .any b0 9 v) (h : DataW.Trod enc Tryd.prog w 0 (fun _ => true) true 9 v d ps)
    (hw : ∀ n ∈ d.weights Tryd.prog 9, n ≤ reachBytes) : ∃ s, v = .string s ∧ s.size ≤ 140737488351232 := by
  obtain ⟨s, rfl, rfl, _, _⟩ := open_string Tryd.underlying9 hv h
  have := hw s.data.toList.length (by simp [DataW.weights])
  have e : reachBytes = 140737488351232 := by decide
  rw [e, Array.length_toList] at this
  exact ⟨s, rfl, this⟩

theorem w_each {ts : List TypeId} {ds : List (DataW H)} (h : (DataW.weightsEach Tryd.prog ts ds).all (· ≤ reachBytes) = true) (j : Nat) (t : TypeId) (d : DataW H) (ht : ts[j]? = some t) (hd : ds[j]? = some d) :
    ∀ n ∈ d.weights Tryd.prog t, n ≤ reachBytes := fun n hn => by
  have := List.all_eq_true.1 h n (DataW.weights_mem_each ht hd n hn)
  simpa using this


/-- A cell of an integer type. -/
theorem cell_int (h : Cell.okWide Tryd.prog w .any b0 3 v) : ∃ n, v = .int .i64 n ∧ I64 n := by
  simp only [Cell.okWide, Cell.ok, Tryd.underlying3] at h
  cases v <;> simp at h
  obtain ⟨rfl, h⟩ := h
  have e1 : IntKind.i64.min = -9223372036854775808 := by decide
  have e2 : IntKind.i64.max = 9223372036854775807 := by decide
  unfold IntKind.has at h
  rw [e1, e2] at h
  exact ⟨_, rfl, h⟩


end
end Go.Proofs.YtkipjloapdolbaaDoor
