/- Words that every walk shares: errors by their numbers, slices of integers. -/
import Derived.Test.YtfklbifgjpocnaaRows
import Derived.WalkKit
import Derived.WalkSpells
import Derived.WalkLawsBesides
import Derived.Lib.Hide
import Derived.Laws.Rows
namespace Go.Proofs.Ytfklbifgjpocnaa
open Go.RowKit

theorem and_one_i64 (n : Nat) (hn : n < 9223372036854775808) : bits .and .i64 (n : Int) 1 = ((n % 2 : Nat) : Int) := by
  have e : ∀ a : Nat, a < 9223372036854775808 → (BitVec.ofInt 64 (a : Int)).toNat = a := fun a ha => by
    rw [BitVec.ofInt_natCast, BitVec.toNat_ofNat]; exact Nat.mod_eq_of_lt (by omega)
  show IntKind.i64.wrap ((BitVec.ofInt 64 (n : Int) &&& BitVec.ofInt 64 ((1 : Nat) : Int)).toNat : Int) = _
  rw [BitVec.toNat_and, e n hn, e 1 (by decide), Nat.and_one_is_mod, IntKind.wrap_i64]
  omega
theorem and_one_yes (n : Nat) (hn : n < 9223372036854775808) (h : n % 2 = 1) : (bits .and .i64 (n : Int) 1 == 1) = true := by rw [and_one_i64 n hn, h]; rfl
theorem and_one_no (n : Nat) (hn : n < 9223372036854775808) (h : n % 2 = 0) : (bits .and .i64 (n : Int) 1 == 1) = false := by rw [and_one_i64 n hn, h]; rfl
theorem i64_eq {a b : Int} (h : a = b) : Value.int .i64 a = .int .i64 b := by rw [h]

def I64 (n : Int) : Prop := -9223372036854775808 ≤ n ∧ n ≤ 9223372036854775807

/-- The slice that begins at A reads, in the world w, as the integers xs. -/
def IntsAt (w : World) (A : Option Addr) (xs : List Int) : Prop :=
  ∀ i, i < xs.length → ∃ b off, A = some ⟨b, off, none⟩ ∧ b < w.heap.size ∧ w.cell? ⟨b, off + i, none⟩ = some (.int .i64 (xs.getD i 0))

theorem IntsAt.below {w w' : World} {A : Option Addr} {xs : List Int} (h : IntsAt w A xs) (hb : Below w.heap.size w w') : IntsAt w' A xs := fun i hi => by
  obtain ⟨b, off, e, hlt, hc⟩ := h i hi
  exact ⟨b, off, e, Nat.lt_of_lt_of_le hlt hb.size, (hb.cell (p := ⟨b, off + i, none⟩) hlt).trans hc⟩
theorem IntsAt.new_ (w : World) (t : TypeId) (xs : List Int) (fr : Nat × Nat) : IntsAt (w.alloc (.cells (xs.map (Value.int .i64)).toArray t fr)) (some ⟨w.heap.size, 0, none⟩) xs := fun i hi => by
  refine ⟨w.heap.size, 0, rfl, by show _ < (w.heap.push _).size; rw [Array.size_push]; exact Nat.lt_succ_self _, ?_⟩
  rw [Nat.zero_add, World.cell?_alloc_mark, List.getElem?_toArray, List.getElem?_map, List.getD_eq_getElem?_getD, List.getElem?_eq_getElem hi]
  rfl
theorem IntsAt.nil_ (w : World) (A : Option Addr) : IntsAt w A [] := fun i hi => absurd hi (by simp)

/-! What was there when a call began is as it was: 'Below a.heap.size a w', step by step. -/
theorem grow_refl (w : World) : Below w.heap.size w w := Below.refl _ _
theorem grow_alloc {a w : World} (h : Below a.heap.size a w) (o : Obj) : Below a.heap.size a (w.alloc o) := h.alloc h.size o
theorem grow_step {a w w' : World} (h : Below a.heap.size a w) (k : Below w.heap.size w w') : Below a.heap.size a w' := h.trans (k.mono h.size)
theorem grow_base {a w w' : World} (h : Below a.heap.size a w) (k : Below a.heap.size w w') : Below a.heap.size a w' := h.trans k
theorem grow_drewN {a w : World} (h : Below a.heap.size a w) (n : Nat) : Below a.heap.size a (w.drewN n) := ⟨h.os, h.tape, h.output, h.size, h.block⟩
theorem grow_drew {a w : World} (h : Below a.heap.size a w) : Below a.heap.size a w.drew := h.drew
theorem grow_set {a w : World} (h : Below a.heap.size a w) {p : Addr} (hp : a.heap.size ≤ p.block) (u : Value) : Below a.heap.size a (w.setCell p u) := h.setCell hp u

theorem bcell {W w1 : World} (hb : Below W.heap.size W w1) : (∀ b o, b < W.heap.size → w1.cell? ⟨b, o, none⟩ = W.cell? ⟨b, o, none⟩) ∧ (∀ b o, b < W.heap.size → w1.frozen? ⟨b, o, none⟩ = W.frozen? ⟨b, o, none⟩) :=
  ⟨fun b o h => hb.cell (p := ⟨b, o, none⟩) h, fun b o h => hb.frozen (p := ⟨b, o, none⟩) h⟩

/-- Block b is, in the world w, just the cells cs. -/
def Box (w : World) (b : Nat) (t : TypeId) (cs : Array Value) : Prop := w.heap[b]? = some (.cells cs t (0, 0))
theorem Box.lt {w : World} {b : Nat} {t : TypeId} {cs : Array Value} (h : Box w b t cs) : b < w.heap.size := by
  rcases Nat.lt_or_ge b w.heap.size with hlt | hge
  · exact hlt
  · unfold Box at h; rw [Array.getElem?_eq_none hge] at h; cases h
theorem Box.cell {w : World} {b : Nat} {t : TypeId} {cs : Array Value} (h : Box w b t cs) : ∀ i, w.cell? ⟨b, i, none⟩ = cs[i]? := fun i => cell_of_row w b i cs t (0, 0) h
theorem Box.frozen {w : World} {b : Nat} {t : TypeId} {cs : Array Value} (h : Box w b t cs) : ∀ i, w.frozen? ⟨b, i, none⟩ = false := fun i => by
  unfold Box at h; simp [World.frozen?, h]
theorem Box.new (w : World) (t : TypeId) (cs : Array Value) : Box (w.alloc (.cells cs t)) w.heap.size t cs := heap_alloc_new w _
theorem Box.below {w w' : World} {b : Nat} {t : TypeId} {cs : Array Value} (h : Box w b t cs) (hb : Below w.heap.size w w') : Box w' b t cs := (hb.block b h.lt).trans h
theorem Box.set_ {w : World} {b : Nat} {t : TypeId} {cs : Array Value} (h : Box w b t cs) (i : Nat) (u : Value) : Box (w.setCell ⟨b, i, none⟩ u) b t (cs.setIfInBounds i u) := by
  unfold Box at h ⊢
  simp [World.setCell, Array.getElem?_modify, h]
theorem Box.far {w : World} {b : Nat} {t : TypeId} {cs : Array Value} (h : Box w b t cs) {p : Addr} (hp : b ≠ p.block) (u : Value) : Box (w.setCell p u) b t cs := (Below.heap_setCell w p u b hp).trans h

theorem bool_lit {a : Bool} (h : a = true) : Ending.returned (.bool a) = .returned (.bool true) := by rw [h]
theorem bool_eq {a b : Bool} (h : a = b) : Ending.returned (.bool a) = .returned (.bool b) := by rw [h]

/-- An error by its number: 0 is nil. -/
def errV (k : Int) : Value := if k = 0 then .nilIface else .iface 28 (.int .i64 k)
theorem errV_nil : errV 0 = .nilIface := rfl
theorem errV_mk {k : Int} (h : k ≠ 0) : errV k = .iface 28 (.int .i64 k) := if_neg h
theorem err_neq (k : Int) (w : World) : (binOp .neq 23 (errV k) .nilIface).run Try.prog w = .ok (.bool (k != 0)) w := by
  by_cases h : k = 0
  · subst h; kernel_rfl
  · rw [errV_mk h, show (k != 0) = true from by simp [h]]; kernel_rfl
theorem err_eql (k : Int) (w : World) : (binOp .eql 23 (errV k) .nilIface).run Try.prog w = .ok (.bool (k == 0)) w := by
  by_cases h : k = 0
  · subst h; kernel_rfl
  · rw [errV_mk h, show (k == 0) = false from by simp [h]]; kernel_rfl
theorem err_guard_neq (o : Nat) (k : Int) (w : World) : (eqGuard .neq 23 (.tmp o) (.const .nilIface) (errV k) .nilIface).run Try.prog w = .ok () w := by
  by_cases h : k = 0
  · subst h; kernel_rfl
  · rw [errV_mk h]; kernel_rfl
theorem err_guard_eql (o : Nat) (k : Int) (w : World) : (eqGuard .eql 23 (.tmp o) (.const .nilIface) (errV k) .nilIface).run Try.prog w = .ok () w := by
  by_cases h : k = 0
  · subst h; kernel_rfl
  · rw [errV_mk h]; kernel_rfl

end Go.Proofs.Ytfklbifgjpocnaa
