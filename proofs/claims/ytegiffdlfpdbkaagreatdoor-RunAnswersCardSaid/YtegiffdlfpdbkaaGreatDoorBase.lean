/- Words that every walk shares: errors by their numbers, slices of integers. -/
import Derived.Test.YtegiffdlfpdbkaaGreatDoorRows
import Derived.WalkKit
import Derived.WalkSpells
import Derived.WalkLawsBesides
import Derived.Lib.Hide
import Derived.Laws.Rows
namespace Go.Proofs.YtegiffdlfpdbkaaGreatDoor
open Go.RowKit

theorem and_one_i64 (n : Nat) (hn : n < 9223372036854775808) : bits .and .i64 (n : Int) 1 = ((n % 2 : Nat) : Int) := by
  have e : ∀ a : Nat, a < 9223372036854775808 → (BitVec.ofInt 64 (a : Int)).toNat = a := fun a ha => by
    rw [BitVec.ofInt_natCast, BitVec.toNat_ofNat]; exact Nat.mod_eq_of_lt (by omega)
  show IntKind.i64.wrap ((BitVec.ofInt 64 (n : Int) &&& BitVec.ofInt 64 ((1 : Nat) : Int)).toNat : Int) = _
  rw [BitVec.toNat_and, e n hn, e 1 (by decide), Nat.and_one_is_mod, IntKind.wrap_i64]
  omega
theorem and_one_yes (n : Nat) (hn : n < 9223372036854775808) (h : n % 2 = 1) : (bits .and .i64 (n : Int) 1 == 1) = true := by rw [and_one_i64 n hn, h]; rfl
theorem and_one_no (n : Nat) (hn : n < 9223372036854775808) (h : n % 2 = 0) : (bits .and .i64 (n : Int) 1 == 1) = false := by rw [and_one_i64 n hn, h]; rfl
theorem i64_eq {a b : Int} (h : a = b) : Value.int .i64 a = .int .i64 b := by rw [h]

def I64 (n : Int) : Prop := -9223372036854775808 ≤ n ∧ n ≤ 9223372036854775807

/-- The slice that begins at A reads, in the world w, as the integers xs. -/
def IntsAt (w : World) (A : Option Addr) (xs : List Int) : Prop :=
  ∀ i, i < xs.length → ∃ b off, A = some ⟨b, off, none⟩ ∧ b < w.heap.size ∧ w.cell? ⟨b, off + i, none⟩ = some (.int .i64 (xs.getD i 0))

theorem IntsAt.below {w w' : World} {A : Option Addr} {xs : List Int} (h : IntsAt w A xs) (hb : Below w.heap.size w w') : IntsAt w' A xs := fun i hi => by
  obtain ⟨b, off, e, hlt, hc⟩ := h i hi
  exact ⟨b, off, e, Nat.lt_of_lt_of_le hlt hb.size, (hb.cell (p := ⟨b, off + i, none⟩) hlt).trans hc⟩
theorem IntsAt.new_ (w : World) (t : TypeId) (xs : List Int) (fr : Nat × Nat) : IntsAt (w.alloc (.cells (xs.map (Value.int .i64)).toArray t fr)) (some ⟨w.heap.size, 0, none⟩) xs := fun i hi => by
  refine ⟨w.heap.size, 0, rfl, by show _ < (w.heap.push _).size; rw [Array.size_push]; exact Nat.lt_succ_self _, ?_⟩
  rw [Nat.zero_add, World.cell?_alloc_mark, List.getElem?_toArray, List.getElem?_map, List.getD_eq_getElem?_getD, List.getElem?_eq_getElem hi]
  rfl
theorem IntsAt.nil_ (w : World) (A : Option Addr) : IntsAt w A [] := fun i hi => absurd hi (by simp)

/-! What was there when a call began is as it was: 'Below a.heap.size a w', step by step. -/
theorem grow_refl (w : World) : Below w.heap.size w w := Below.refl _ _
theorem grow_alloc {a w : World} (h : Below a.heap.size a w) (o : Obj) : Below a.heap.size a (w.alloc o) := h.alloc h.size o
theorem grow_step {a w w' : World} (h : Below a.heap.size a w) (k : Below w.heap.size w w') : Below a.heap.size a w' := h.trans (k.mono h.size)
theorem grow_base {a w w' : World} (h : Below a.heap.size a w) (k : Below a.heap.size w w') : Below a.heap.size a w' := h.trans k
theorem grow_drewN {a w : World} (h : Below a.heap.size a w) (n : Nat) : Below a.heap.size a (w.drewN n) := ⟨h.os, h.tape, h.output, h.size, h.block⟩
theorem grow_drew {a w : World} (h : Below a.heap.size a w) : Below a.heap.size a w.drew := h.drew
theorem grow_set {a w : World} (h : Below a.heap.size a w) {p : Addr} (hp : a.heap.size ≤ p.block) (u : Value) : Below a.heap.size a (w.setCell p u) := h.setCell hp u

theorem bcell {W w1 : World} (hb : Below W.heap.size W w1) : (∀ b o, b < W.heap.size → w1.cell? ⟨b, o, none⟩ = W.cell? ⟨b, o, none⟩) ∧ (∀ b o, b < W.heap.size → w1.frozen? ⟨b, o, none⟩ = W.frozen? ⟨b, o, none⟩) :=
  ⟨fun b o h => hb.cell (p := ⟨b, o, none⟩) h, fun b o h => hb.frozen (p := ⟨b, o, none⟩) h⟩

/-- Block b is, in the world w, just the cells cs. -/
def Box (w : World) (b : Nat) (t : TypeId) (cs : Array Value) : Prop := w.heap[b]? = some (.cells cs t (0, 0))
theorem Box.lt {w : World} {b : Nat} {t : TypeId} {cs : Array Value} (h : Box w b t cs) : b < w.heap.size := by
  rcases Nat.lt_or_ge b w.heap.size with hlt | hge
  · exact hlt
  · unfold Box at h; rw [Array.getElem?_eq_none hge] at h; cases h
theorem Box.cell {w : World} {b : Nat} {t : TypeId} {cs : Array Value} (h : Box w b t cs) : ∀ i, w.cell? ⟨b, i, none⟩ = cs[i]? := fun i => cell_of_row w b i cs t (0, 0) h
theorem Box.frozen {w : World} {b : Nat} {t : TypeId} {cs : Array Value} (h : Box w b t cs) : ∀ i, w.frozen? ⟨b, i, none⟩ = false := fun i => by
  unfold Box at h; simp [World.frozen?, h]
theorem Box.new (w : World) (t : TypeId) (cs : Array Value) : Box (w.alloc (.cells cs t)) w.heap.size t cs := heap_alloc_new w _
theorem Box.below {w w' : World} {b : Nat} {t : TypeId} {cs : Array Value} (h : Box w b t cs) (hb : Below w.heap.size w w') : Box w' b t cs := (hb.block b h.lt).trans h
theorem Box.belowB {w w' : World} {b B : Nat} {t : TypeId} {cs : Array Value} (h : Box w b t cs) (hb : Below B w w') (hlt : b < B) : Box w' b t cs := (hb.block b hlt).trans h
theorem Box.set_ {w : World} {b : Nat} {t : TypeId} {cs : Array Value} (h : Box w b t cs) (i : Nat) (u : Value) : Box (w.setCell ⟨b, i, none⟩ u) b t (cs.setIfInBounds i u) := by
  unfold Box at h ⊢
  simp [World.setCell, Array.getElem?_modify, h]
theorem Box.far {w : World} {b : Nat} {t : TypeId} {cs : Array Value} (h : Box w b t cs) {p : Addr} (hp : b ≠ p.block) (u : Value) : Box (w.setCell p u) b t cs := (Below.heap_setCell w p u b hp).trans h

theorem Box.at_ {w : World} {b : Nat} {t : TypeId} {xs : List Int} (h : Box w b t (xs.map (Value.int .i64)).toArray) (k : Nat) (hk : k < xs.length) : w.cell? ⟨b, k, none⟩ = some (.int .i64 (xs.getD k 0)) := by
  rw [h.cell, List.getElem?_toArray, List.getElem?_map, List.getD_eq_getElem?_getD, List.getElem?_eq_getElem hk]; rfl
theorem Box.setI {w : World} {b : Nat} {t : TypeId} {xs : List Int} (h : Box w b t (xs.map (Value.int .i64)).toArray) (r : Nat) (v : Int) :
    Box (w.setCell ⟨b, r, none⟩ (.int .i64 v)) b t ((xs.set r v).map (Value.int .i64)).toArray := by
  have := h.set_ r (.int .i64 v)
  rw [List.map_set]
  simpa using this
theorem Box.alloc_ {w : World} {b : Nat} {t : TypeId} {cs : Array Value} (h : Box w b t cs) (o : Obj) : Box (w.alloc o) b t cs := h.below (grow_alloc (grow_refl _) o)
theorem Box.drew_ {w : World} {b : Nat} {t : TypeId} {cs : Array Value} (h : Box w b t cs) : Box w.drew b t cs := h
theorem Box.drewN_ {w : World} {b : Nat} {t : TypeId} {cs : Array Value} (h : Box w b t cs) (n : Nat) : Box (w.drewN n) b t cs := h
theorem Box.fill2 {w : World} {b : Nat} {t : TypeId} {a0 a1 : Value} (h : Box w b t #[a0, a1]) (v0 v1 : Value) :
    Box ((w.setCell ⟨b, 0, none⟩ v0).setCell ⟨b, 1, none⟩ v1) b t #[v0, v1] := by
  have := ((h.set_ 0 v0).set_ 1 v1)
  simpa using this
theorem Box.fill3 {w : World} {b : Nat} {t : TypeId} {a0 a1 a2 : Value} (h : Box w b t #[a0, a1, a2]) (v0 v1 v2 : Value) :
    Box (((w.setCell ⟨b, 0, none⟩ v0).setCell ⟨b, 1, none⟩ v1).setCell ⟨b, 2, none⟩ v2) b t #[v0, v1, v2] := by
  have := (((h.set_ 0 v0).set_ 1 v1).set_ 2 v2)
  simpa using this
theorem Box.fill5 {w : World} {b : Nat} {t : TypeId} {a0 a1 a2 a3 a4 : Value} (h : Box w b t #[a0, a1, a2, a3, a4]) (v0 v1 v2 v3 v4 : Value) :
    Box (((((w.setCell ⟨b, 0, none⟩ v0).setCell ⟨b, 1, none⟩ v1).setCell ⟨b, 2, none⟩ v2).setCell ⟨b, 3, none⟩ v3).setCell ⟨b, 4, none⟩ v4) b t #[v0, v1, v2, v3, v4] := by
  have := (((((h.set_ 0 v0).set_ 1 v1).set_ 2 v2).set_ 3 v3).set_ 4 v4)
  simpa using this
theorem Box.fill8 {w : World} {b : Nat} {t : TypeId} {a0 a1 a2 a3 a4 a5 a6 a7 : Value} (h : Box w b t #[a0, a1, a2, a3, a4, a5, a6, a7]) (v0 v1 v2 v3 v4 v5 v6 v7 : Value) :
    Box ((((((((w.setCell ⟨b, 0, none⟩ v0).setCell ⟨b, 1, none⟩ v1).setCell ⟨b, 2, none⟩ v2).setCell ⟨b, 3, none⟩ v3).setCell ⟨b, 4, none⟩ v4).setCell ⟨b, 5, none⟩ v5).setCell ⟨b, 6, none⟩ v6).setCell ⟨b, 7, none⟩ v7) b t #[v0, v1, v2, v3, v4, v5, v6, v7] := by
  have := ((((((((h.set_ 0 v0).set_ 1 v1).set_ 2 v2).set_ 3 v3).set_ 4 v4).set_ 5 v5).set_ 6 v6).set_ 7 v7)
  simpa using this

theorem ret_cell_tmp {P : Program} {fn : Func} {p u : Tmp} {ty : TypeId} (h : fn.results = #[.cell p ty, .tmp u]) {tmps : Array Value} {w : World} {g : Nat} {t : TypeId} {cs : Array Value} {d : TypeDesc}
    (hp : tmps.getD p undef = .pointer (some ⟨g, 0, none⟩)) (hb : Box w g t cs) (hu : P.underlying ty = some d) (hd : (match d with | .struct _ | .array _ _ => true | _ => false) = true) (hi : (P.info? ty).map (·.size) = some cs.size) :
    (results fn tmps).run P w = .ok (.tuple #[.agg cs, tmps.getD u undef]) w := by
  have hp' : tmps[p]?.getD undef = .pointer (some ⟨g, 0, none⟩) := by simpa using hp
  simp [results, h, hp', asAddr, run_loadVar_row w g t ty cs (0, 0) d hb hu hd hi]
theorem ret_cell {P : Program} {fn : Func} {p : Tmp} {ty : TypeId} (h : fn.results = #[.cell p ty]) {tmps : Array Value} {w : World} {g : Nat} {t : TypeId} {cs : Array Value} {d : TypeDesc}
    (hp : tmps.getD p undef = .pointer (some ⟨g, 0, none⟩)) (hb : Box w g t cs) (hu : P.underlying ty = some d) (hd : (match d with | .struct _ | .array _ _ => true | _ => false) = true) (hi : (P.info? ty).map (·.size) = some cs.size) :
    (results fn tmps).run P w = .ok (.agg cs) w := results_cell_row h tmps w g t cs (0, 0) d hp hb hu hd hi

theorem bool_lit {a : Bool} (h : a = true) : Ending.returned (.bool a) = .returned (.bool true) := by rw [h]
theorem bool_eq {a b : Bool} (h : a = b) : Ending.returned (.bool a) = .returned (.bool b) := by rw [h]

/-- An error by its number: 0 is nil. -/
def errV (k : Int) : Value := if k = 0 then .nilIface else .iface 79 (.int .i64 k)
theorem errV_nil : errV 0 = .nilIface := rfl
theorem errV_mk {k : Int} (h : k ≠ 0) : errV k = .iface 79 (.int .i64 k) := if_neg h
theorem err_neq (k : Int) (w : World) : (binOp .neq 50 (errV k) .nilIface).run Tryz.prog w = .ok (.bool (k != 0)) w := by
  by_cases h : k = 0
  · subst h; kernel_rfl
  · rw [errV_mk h, show (k != 0) = true from by simp [h]]; kernel_rfl
theorem err_eql (k : Int) (w : World) : (binOp .eql 50 (errV k) .nilIface).run Tryz.prog w = .ok (.bool (k == 0)) w := by
  by_cases h : k = 0
  · subst h; kernel_rfl
  · rw [errV_mk h, show (k == 0) = false from by simp [h]]; kernel_rfl
theorem err_guard_neq (o : Nat) (k : Int) (w : World) : (eqGuard .neq 50 (.tmp o) (.const .nilIface) (errV k) .nilIface).run Tryz.prog w = .ok () w := by
  by_cases h : k = 0
  · subst h; kernel_rfl
  · rw [errV_mk h]; kernel_rfl
theorem err_guard_eql (o : Nat) (k : Int) (w : World) : (eqGuard .eql 50 (.tmp o) (.const .nilIface) (errV k) .nilIface).run Tryz.prog w = .ok () w := by
  by_cases h : k = 0
  · subst h; kernel_rfl
  · rw [errV_mk h]; kernel_rfl

end Go.Proofs.YtegiffdlfpdbkaaGreatDoor
