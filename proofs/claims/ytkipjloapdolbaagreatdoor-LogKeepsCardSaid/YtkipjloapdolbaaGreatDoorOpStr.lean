/- What comes in: a list of strings. -/
import Derived.Test.YtkipjloapdolbaaGreatDoorOpI
namespace Go.Proofs.YtkipjloapdolbaaGreatDoor
open Go.ChangeShapes Go.WideShapes Go.ChangeAt Go.RowKit Go.WideMaps Go.WideElems Go.Deep
set_option maxRecDepth 100000

def StrIs (y : ByteArray) (cs : List Value) : Prop := cs = [.string y] ∧ y.size ≤ 140737488351232
/-- Strings one behind the other. -/
def StrsAt (w : World) (A : Option Addr) (ss : List ByteArray) : Prop :=
  ∀ i, i < ss.length → ∃ b off, A = some ⟨b, off, none⟩ ∧ b < w.heap.size ∧ w.cell? ⟨b, off + i, none⟩ = some (.string (ss.getD i ⟨#[]⟩))
theorem StrsAt.below {w w' : World} {A : Option Addr} {ss : List ByteArray} (h : StrsAt w A ss) (hb : Below w.heap.size w w') : StrsAt w' A ss := fun i hi => by
  obtain ⟨b, off, e, hlt, hc⟩ := h i hi
  exact ⟨b, off, e, Nat.lt_of_lt_of_le hlt hb.size, (hb.cell (p := ⟨b, off + i, none⟩) hlt).trans hc⟩
theorem StrsAt.nil_ (w : World) (A : Option Addr) : StrsAt w A [] := fun i hi => absurd hi (by simp)

theorem op_strings {H : Type} {enc : TypeId × Value → H} {w : World} {b0 : Nat} {v : Value} {d : DataW H} {ps : List MemPlace} (hv : Value.okWide Tryz.prog w .any b0 22 v) (h : DataW.Trod enc Tryz.prog w 0 (fun _ => true) true 22 v d ps) (hlt : ∀ x ∈ ps, x.block < w.heap.size)
    (hw : ∀ n ∈ d.weights Tryz.prog 22, n ≤ reachBytes) : ∃ A ss c, v = .slice A ss.length c ∧ StrsAt w A ss ∧ ss.length * 16 ≤ 140737488351232 ∧ ss.length ≤ c ∧ ∀ i, i < ss.length → (ss.getD i ⟨#[]⟩).size ≤ 140737488351232 := by
  have : Inhabited ByteArray := ⟨⟨#[]⟩⟩
  obtain ⟨A, es, c, e1, e2, e3, e4⟩ := op_slice (X := ByteArray) StrIs 1 Tryz.underlying22 (by kernel_rfl) (by decide)
    (fun fuel cs x hx hl _ hwt => by
      obtain ⟨s, e, z⟩ := str_of_cells hx hwt
      exact ⟨s, e, z⟩) hv h hlt hw
  have e16 : Program.bytesOf Tryz.prog 9 = 16 := by kernel_rfl
  rw [e16] at e3
  have hat : ∀ i, i < es.length → ∃ b off cs, A = some ⟨b, off, none⟩ ∧ b < w.heap.size ∧ (∀ j, j < 1 → w.cell? ⟨b, off + i * 1 + j, none⟩ = cs[j]?) ∧ StrIs (es.getD i ⟨#[]⟩) cs := fun i hi => by
    obtain ⟨b, off, cs, hA, hb, _, hc, hR⟩ := e4 i hi
    have hdef : es.getD i default = es.getD i ⟨#[]⟩ := by rw [List.getD_eq_getElem?_getD, List.getD_eq_getElem?_getD, List.getElem?_eq_getElem hi]; rfl
    rw [hdef] at hR
    exact ⟨b, off, cs, hA, hb, hc, hR⟩
  refine ⟨A, es, c, e1, fun i hi => ?_, e3, e2, fun i hi => ?_⟩
  · obtain ⟨b, off, cs, hA, hb, hc, hR, _⟩ := hat i hi
    subst hR
    have := hc 0 (by omega)
    rw [Nat.mul_one, Nat.add_zero] at this
    exact ⟨b, off, hA, hb, this⟩
  · obtain ⟨b, off, cs, hA, hb, hc, _, z1⟩ := hat i hi
    exact z1
end Go.Proofs.YtkipjloapdolbaaGreatDoor
