/- What comes in: images, signed images, lists of them. -/
import Derived.Test.YtalgnjdnanlidaaDoorOpenS
import Derived.Deep.Strs
namespace Go.Proofs.YtalgnjdnanlidaaDoor
open Go.ChangeShapes Go.WideShapes Go.ChangeAt Go.RowKit Go.WideMaps Go.WideElems Go.Deep
set_option maxRecDepth 100000

section
variable {H : Type} {enc : TypeId × Value → H} {w : World} {b0 : Nat} {v : Value} {d : DataW H} {ps : List MemPlace}

/-- An image: name, version, code. -/
def ImgIs (y : ByteArray × Int × ByteArray) (cs : List Value) : Prop := cs = [.string y.1, .int .i64 y.2.1, .string y.2.2] ∧ I64 y.2.1 ∧ y.1.size ≤ 140737488351232 ∧ y.2.2.size ≤ 140737488351232

theorem str_of_cells {fuel : Nat} {cs : List Value} {x : DataW H × List MemPlace} (h : DataW.trod enc Tryd.prog w 0 (fun _ => true) true fuel 9 cs = some x) (hw : ∀ n ∈ x.1.weights Tryd.prog 9, n ≤ reachBytes) :
    ∃ s : ByteArray, cs = [.string s] ∧ s.size ≤ 140737488351232 := by
  obtain ⟨s, hc, hx, _⟩ := DataW.trod_string Tryd.underlying9 h
  subst hx
  have := hw s.data.toList.length (by simp [DataW.weights])
  have e : reachBytes = 140737488351232 := by decide
  rw [e, Array.length_toList] at this
  exact ⟨s, hc, this⟩

theorem elem_image {fuel : Nat} {cs : List Value} {x : DataW H × List MemPlace} (h : DataW.trod enc Tryd.prog w 0 (fun _ => true) true fuel 31 cs = some x) (hl : cs.length = 3) (hw : ∀ n ∈ x.1.weights Tryd.prog 31, n ≤ reachBytes) :
    ∃ y : ByteArray × Int × ByteArray, ImgIs y cs := by
  obtain ⟨y0, y1, y2, n, hx, _, h0, h1, h2⟩ := trod_struct3 Tryd.underlying31 h
  subst hx
  match cs, hl with
  | [c0, c1, c2], _ =>
    have hc : Program.cellsOf Tryd.prog 3 = 1 := by kernel_rfl
    have hs : Program.cellsOf Tryd.prog 9 = 1 := by kernel_rfl
    simp only [hc, hs, List.drop_zero, List.take_succ_cons, List.take_zero, List.drop_succ_cons] at h0 h1 h2
    obtain ⟨s0, e0, z0⟩ := str_of_cells h0 (fun k hk => hw k (by
      simp only [DataW.weights, Tryd.underlying31, DataW.weightsEach, List.map_cons, List.map_nil]
      exact List.mem_append.2 (Or.inl hk)))
    obtain ⟨b, e1, _, wb⟩ := DataW.trod_int Tryd.underlying3 h1
    obtain ⟨s2, e2, z2⟩ := str_of_cells h2 (fun k hk => hw k (by
      simp only [DataW.weights, Tryd.underlying31, DataW.weightsEach, List.map_cons, List.map_nil]
      exact List.mem_append.2 (Or.inr (List.mem_append.2 (Or.inr (List.mem_append.2 (Or.inl hk)))))))
    simp only [List.cons.injEq, and_true] at e0 e1 e2
    exact ⟨(s0, b, s2), by rw [e0, e1, e2], i64_of_wf wb, z0, z2⟩

theorem op_image (hv : Value.okWide Tryd.prog w .any b0 31 v) (h : DataW.Trod enc Tryd.prog w 0 (fun _ => true) true 31 v d ps)
    (hw : ∀ n ∈ d.weights Tryd.prog 31, n ≤ reachBytes) : ∃ n v' c, v = .agg #[.string n, .int .i64 v', .string c] ∧ I64 v' ∧ n.size ≤ 140737488351232 ∧ c.size ≤ 140737488351232 := by
  simp only [Value.okWide, Tryd.underlying31] at hv
  obtain ⟨cs, rfl, hsz, _⟩ := hv
  obtain ⟨fuel, hf⟩ := h
  have e8 : Program.cellsOf Tryd.prog 31 = 3 := by kernel_rfl
  rw [e8] at hsz
  have hf' : DataW.trod enc Tryd.prog w 0 (fun _ => true) true fuel 31 cs.toList = some (d, ps) := hf
  obtain ⟨⟨n, v', c⟩, e, i, z0, z2⟩ := elem_image hf' (by simpa using hsz) hw
  refine ⟨n, v', c, ?_, i, z0, z2⟩
  congr 1
  rw [← Array.toArray_toList (xs := cs), e]




end


end Go.Proofs.YtalgnjdnanlidaaDoor
