/- What comes in: images one behind the other. -/
import Derived.Test.YtdedllfgeekogaaDoorOpI
namespace Go.Proofs.YtdedllfgeekogaaDoor
open Go.ChangeShapes Go.WideShapes Go.ChangeAt Go.RowKit Go.WideMaps Go.WideElems Go.Deep
set_option maxRecDepth 100000

abbrev Img3 := ByteArray × Int × ByteArray
def noImg : Img3 := (⟨#[]⟩, 0, ⟨#[]⟩)
def imgCs (y : Img3) : List Value := [.string y.1, .int .i64 y.2.1, .string y.2.2]
def ImgsAt (w : World) (A : Option Addr) (ss : List Img3) : Prop :=
  ∀ i, i < ss.length → ∃ b off, A = some ⟨b, off, none⟩ ∧ b < w.heap.size ∧ ∀ j, j < 3 → w.cell? ⟨b, off + i * 3 + j, none⟩ = (imgCs (ss.getD i noImg))[j]?
theorem ImgsAt.below {w w' : World} {A : Option Addr} {ss : List Img3} (h : ImgsAt w A ss) (hb : Below w.heap.size w w') : ImgsAt w' A ss := fun i hi => by
  obtain ⟨b, off, e, hlt, hc⟩ := h i hi
  exact ⟨b, off, e, Nat.lt_of_lt_of_le hlt hb.size, fun j hj => (hb.cell (p := ⟨b, off + i * 3 + j, none⟩) hlt).trans (hc j hj)⟩
theorem op_images {H : Type} {enc : TypeId × Value → H} {w : World} {b0 : Nat} {v : Value} {d : DataW H} {ps : List MemPlace} (hv : Value.okWide Tryd.prog w .any b0 22 v) (h : DataW.Trod enc Tryd.prog w 0 (fun _ => true) true 22 v d ps) (hlt : ∀ x ∈ ps, x.block < w.heap.size)
    (hw : ∀ n ∈ d.weights Tryd.prog 22, n ≤ reachBytes) : ∃ A ss c, v = .slice A ss.length c ∧ ImgsAt w A ss ∧ ss.length * 40 ≤ 140737488351232 ∧ ss.length ≤ c ∧ ∀ i, i < ss.length → (ss.getD i noImg).1.size ≤ 140737488351232 ∧ (ss.getD i noImg).2.2.size ≤ 140737488351232 ∧ I64 (ss.getD i noImg).2.1 := by
  have : Inhabited Img3 := ⟨noImg⟩
  obtain ⟨A, es, c, e1, e2, e3, e4⟩ := op_slice (X := Img3) ImgIs 3 Tryd.underlying22 (by kernel_rfl) (by decide)
    (fun fuel cs x hx hl _ hwt => elem_image hx hl hwt) hv h hlt hw
  have e40 : Program.bytesOf Tryd.prog 24 = 40 := by kernel_rfl
  rw [e40] at e3
  have hat : ∀ i, i < es.length → ∃ b off cs, A = some ⟨b, off, none⟩ ∧ b < w.heap.size ∧ (∀ j, j < 3 → w.cell? ⟨b, off + i * 3 + j, none⟩ = cs[j]?) ∧ ImgIs (es.getD i noImg) cs := fun i hi => by
    obtain ⟨b, off, cs, hA, hb, _, hc, hR⟩ := e4 i hi
    have hdef : es.getD i default = es.getD i noImg := by rw [List.getD_eq_getElem?_getD, List.getD_eq_getElem?_getD, List.getElem?_eq_getElem hi]; rfl
    rw [hdef] at hR
    exact ⟨b, off, cs, hA, hb, hc, hR⟩
  refine ⟨A, es, c, e1, fun i hi => ?_, e3, e2, fun i hi => ?_⟩
  · obtain ⟨b, off, cs, hA, hb, hc, hR, _⟩ := hat i hi
    subst hR
    exact ⟨b, off, hA, hb, hc⟩
  · obtain ⟨b, off, cs, hA, hb, hc, _, i1, z1, z2⟩ := hat i hi
    exact ⟨z1, z2, i1⟩
end Go.Proofs.YtdedllfgeekogaaDoor
