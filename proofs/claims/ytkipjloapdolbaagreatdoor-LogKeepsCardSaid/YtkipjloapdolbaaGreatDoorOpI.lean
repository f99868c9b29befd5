/- What comes in: images, signed images, lists of them. -/
import Derived.Test.YtkipjloapdolbaaGreatDoorOpenS
import Derived.Deep.Strs
namespace Go.Proofs.YtkipjloapdolbaaGreatDoor
open Go.ChangeShapes Go.WideShapes Go.ChangeAt Go.RowKit Go.WideMaps Go.WideElems Go.Deep
set_option maxRecDepth 100000

section
variable {H : Type} {enc : TypeId × Value → H} {w : World} {b0 : Nat} {v : Value} {d : DataW H} {ps : List MemPlace}

/-- An image: name, version, code. -/
def ImgIs (y : ByteArray × Int × ByteArray) (cs : List Value) : Prop := cs = [.string y.1, .int .i64 y.2.1, .string y.2.2] ∧ I64 y.2.1 ∧ y.1.size ≤ 140737488351232 ∧ y.2.2.size ≤ 140737488351232

theorem str_of_cells {fuel : Nat} {cs : List Value} {x : DataW H × List MemPlace} (h : DataW.trod enc Tryz.prog w 0 (fun _ => true) true fuel 9 cs = some x) (hw : ∀ n ∈ x.1.weights Tryz.prog 9, n ≤ reachBytes) :
    ∃ s : ByteArray, cs = [.string s] ∧ s.size ≤ 140737488351232 := by
  obtain ⟨s, hc, hx, _⟩ := DataW.trod_string Tryz.underlying9 h
  subst hx
  have := hw s.data.toList.length (by simp [DataW.weights])
  have e : reachBytes = 140737488351232 := by decide
  rw [e, Array.length_toList] at this
  exact ⟨s, hc, this⟩

theorem elem_image {fuel : Nat} {cs : List Value} {x : DataW H × List MemPlace} (h : DataW.trod enc Tryz.prog w 0 (fun _ => true) true fuel 74 cs = some x) (hl : cs.length = 3) (hw : ∀ n ∈ x.1.weights Tryz.prog 74, n ≤ reachBytes) :
    ∃ y : ByteArray × Int × ByteArray, ImgIs y cs := by
  obtain ⟨y0, y1, y2, n, hx, _, h0, h1, h2⟩ := trod_struct3 Tryz.underlying74 h
  subst hx
  match cs, hl with
  | [c0, c1, c2], _ =>
    have hc : Program.cellsOf Tryz.prog 3 = 1 := by kernel_rfl
    have hs : Program.cellsOf Tryz.prog 9 = 1 := by kernel_rfl
    simp only [hc, hs, List.drop_zero, List.take_succ_cons, List.take_zero, List.drop_succ_cons] at h0 h1 h2
    obtain ⟨s0, e0, z0⟩ := str_of_cells h0 (fun k hk => hw k (by
      simp only [DataW.weights, Tryz.underlying74, DataW.weightsEach, List.map_cons, List.map_nil]
      exact List.mem_append.2 (Or.inl hk)))
    obtain ⟨b, e1, _, wb⟩ := DataW.trod_int Tryz.underlying3 h1
    obtain ⟨s2, e2, z2⟩ := str_of_cells h2 (fun k hk => hw k (by
      simp only [DataW.weights, Tryz.underlying74, DataW.weightsEach, List.map_cons, List.map_nil]
      exact List.mem_append.2 (Or.inr (List.mem_append.2 (Or.inr (List.mem_append.2 (Or.inl hk)))))))
    simp only [List.cons.injEq, and_true] at e0 e1 e2
    exact ⟨(s0, b, s2), by rw [e0, e1, e2], i64_of_wf wb, z0, z2⟩

theorem op_image (hv : Value.okWide Tryz.prog w .any b0 74 v) (h : DataW.Trod enc Tryz.prog w 0 (fun _ => true) true 74 v d ps)
    (hw : ∀ n ∈ d.weights Tryz.prog 74, n ≤ reachBytes) : ∃ n v' c, v = .agg #[.string n, .int .i64 v', .string c] ∧ I64 v' ∧ n.size ≤ 140737488351232 ∧ c.size ≤ 140737488351232 := by
  simp only [Value.okWide, Tryz.underlying74] at hv
  obtain ⟨cs, rfl, hsz, _⟩ := hv
  obtain ⟨fuel, hf⟩ := h
  have e8 : Program.cellsOf Tryz.prog 74 = 3 := by kernel_rfl
  rw [e8] at hsz
  have hf' : DataW.trod enc Tryz.prog w 0 (fun _ => true) true fuel 74 cs.toList = some (d, ps) := hf
  obtain ⟨⟨n, v', c⟩, e, i, z0, z2⟩ := elem_image hf' (by simpa using hsz) hw
  refine ⟨n, v', c, ?_, i, z0, z2⟩
  congr 1
  rw [← Array.toArray_toList (xs := cs), e]

/-- A signed image: name, version, code, point, answer. -/
def SgnIs (y : ByteArray × Int × ByteArray × Int × Int) (cs : List Value) : Prop := cs = [.string y.1, .int .i64 y.2.1, .string y.2.2.1, .int .i64 y.2.2.2.1, .int .i64 y.2.2.2.2] ∧ I64 y.2.1 ∧ y.1.size ≤ 140737488351232 ∧ y.2.2.1.size ≤ 140737488351232 ∧ I64 y.2.2.2.1 ∧ I64 y.2.2.2.2

theorem elem_seal {fuel : Nat} {cs : List Value} {x : DataW H × List MemPlace} (h : DataW.trod enc Tryz.prog w 0 (fun _ => true) true fuel 48 cs = some x) (hl : cs.length = 2) :
    ∃ y : Int × Int, cs = [.int .i64 y.1, .int .i64 y.2] ∧ I64 y.1 ∧ I64 y.2 := by
  obtain ⟨y0, y1, n, _, _, h0, h1⟩ := trod_struct2 Tryz.underlying48 h
  match cs, hl with
  | [c0, c1], _ =>
    have hc : Program.cellsOf Tryz.prog 3 = 1 := by kernel_rfl
    simp only [hc, List.drop_zero, List.take_succ_cons, List.take_zero, List.drop_succ_cons] at h0 h1
    obtain ⟨a, e0, _, wa⟩ := DataW.trod_int Tryz.underlying3 h0
    obtain ⟨b, e1, _, wb⟩ := DataW.trod_int Tryz.underlying3 h1
    simp only [List.cons.injEq, and_true] at e0 e1
    exact ⟨(a, b), by rw [e0, e1], i64_of_wf wa, i64_of_wf wb⟩

theorem elem_signed {fuel : Nat} {cs : List Value} {x : DataW H × List MemPlace} (h : DataW.trod enc Tryz.prog w 0 (fun _ => true) true fuel 76 cs = some x) (hl : cs.length = 5) (hw : ∀ n ∈ x.1.weights Tryz.prog 76, n ≤ reachBytes) :
    ∃ y : ByteArray × Int × ByteArray × Int × Int, SgnIs y cs := by
  obtain ⟨y0, y1, n, hx, _, h0, h1⟩ := trod_struct2 Tryz.underlying76 h
  subst hx
  match cs, hl with
  | [c0, c1, c2, c3, c4], _ =>
    have hc : Program.cellsOf Tryz.prog 74 = 3 := by kernel_rfl
    have hs : Program.cellsOf Tryz.prog 48 = 2 := by kernel_rfl
    simp only [hc, hs, List.drop_zero, List.take_succ_cons, List.take_zero, List.drop_succ_cons] at h0 h1
    obtain ⟨⟨s0, a, s2⟩, e0, ia, z0, z2⟩ := elem_image h0 rfl (fun k hk => hw k (by
      simp only [DataW.weights, Tryz.underlying76, DataW.weightsEach, List.map_cons, List.map_nil]
      exact List.mem_append.2 (Or.inl hk)))
    obtain ⟨⟨p, q⟩, e1, ip, iq⟩ := elem_seal h1 rfl
    simp only [List.cons.injEq, and_true] at e0 e1
    obtain ⟨q0, q1, q2⟩ := e0
    obtain ⟨q3, q4⟩ := e1
    exact ⟨(s0, a, s2, p, q), by rw [q0, q1, q2, q3, q4], ia, z0, z2, ip, iq⟩

theorem op_signed (hv : Value.okWide Tryz.prog w .any b0 76 v) (h : DataW.Trod enc Tryz.prog w 0 (fun _ => true) true 76 v d ps)
    (hw : ∀ n ∈ d.weights Tryz.prog 76, n ≤ reachBytes) : ∃ n v' c p a, v = .agg #[.string n, .int .i64 v', .string c, .int .i64 p, .int .i64 a] ∧ I64 v' ∧ n.size ≤ 140737488351232 ∧ c.size ≤ 140737488351232 ∧ I64 p ∧ I64 a := by
  simp only [Value.okWide, Tryz.underlying76] at hv
  obtain ⟨cs, rfl, hsz, _⟩ := hv
  obtain ⟨fuel, hf⟩ := h
  have e8 : Program.cellsOf Tryz.prog 76 = 5 := by kernel_rfl
  rw [e8] at hsz
  have hf' : DataW.trod enc Tryz.prog w 0 (fun _ => true) true fuel 76 cs.toList = some (d, ps) := hf
  obtain ⟨⟨n, v', c, p, a⟩, e, i, z0, z2, ip, iq⟩ := elem_signed hf' (by simpa using hsz) hw
  refine ⟨n, v', c, p, a, ?_, i, z0, z2, ip, iq⟩
  congr 1
  rw [← Array.toArray_toList (xs := cs), e]
end

/-- Signed images one behind the other. -/
abbrev Sgn := ByteArray × Int × ByteArray × Int × Int
def noSgn : Sgn := (⟨#[]⟩, 0, ⟨#[]⟩, 0, 0)
def sgnCs (y : Sgn) : List Value := [.string y.1, .int .i64 y.2.1, .string y.2.2.1, .int .i64 y.2.2.2.1, .int .i64 y.2.2.2.2]
def SgnsAt (w : World) (A : Option Addr) (ss : List Sgn) : Prop :=
  ∀ i, i < ss.length → ∃ b off, A = some ⟨b, off, none⟩ ∧ b < w.heap.size ∧ ∀ j, j < 5 → w.cell? ⟨b, off + i * 5 + j, none⟩ = (sgnCs (ss.getD i noSgn))[j]?
theorem SgnsAt.below {w w' : World} {A : Option Addr} {ss : List Sgn} (h : SgnsAt w A ss) (hb : Below w.heap.size w w') : SgnsAt w' A ss := fun i hi => by
  obtain ⟨b, off, e, hlt, hc⟩ := h i hi
  exact ⟨b, off, e, Nat.lt_of_lt_of_le hlt hb.size, fun j hj => (hb.cell (p := ⟨b, off + i * 5 + j, none⟩) hlt).trans (hc j hj)⟩
theorem SgnsAt.nil_ (w : World) (A : Option Addr) : SgnsAt w A [] := fun i hi => absurd hi (by simp)

end Go.Proofs.YtkipjloapdolbaaGreatDoor
