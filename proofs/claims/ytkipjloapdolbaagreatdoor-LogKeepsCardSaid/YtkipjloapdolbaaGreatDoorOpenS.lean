/- What comes in: lists of structs, opened to cells. -/
import Derived.Test.YtkipjloapdolbaaGreatDoorOpen
import Derived.Deep.Slices
namespace Go.Proofs.YtkipjloapdolbaaGreatDoor
open Go.ChangeShapes Go.WideShapes Go.ChangeAt Go.RowKit Go.WideMaps Go.WideElems Go.Deep
set_option maxRecDepth 100000

theorem weightsAll_mem {H : Type} {P : Program} {e : TypeId} : ∀ {ds : List (DataW H)} {d : DataW H}, d ∈ ds → ∀ n ∈ d.weights P e, n ∈ DataW.weightsAll P e ds
  | x :: xs, d, hd, n, hn => by
    simp only [DataW.weightsAll, List.mem_append]
    rcases List.mem_cons.1 hd with rfl | h
    · exact Or.inl hn
    · exact Or.inr (weightsAll_mem h n hn)

/-- A list of things of 'size' cells each: what R says of each one's cells. -/
theorem op_slice {H : Type} {enc : TypeId × Value → H} {P : Program} {w : World} {b0 : Nat} {v : Value} {d : DataW H} {ps : List MemPlace} {t e : TypeId} {X : Type} [Inhabited X] (R : X → List Value → Prop) (size : Nat)
    (ht : P.underlying t = some (.slice e)) (hc : P.cellsOf e = size) (hs0 : 0 < size)
    (elem : ∀ (fuel : Nat) (cs : List Value) (x : DataW H × List MemPlace), DataW.trod enc P w 0 (fun _ => true) true fuel e cs = some x → cs.length = size → (∀ p ∈ x.2, p.block < w.heap.size) → (∀ n ∈ x.1.weights P e, n ≤ reachBytes) → ∃ y : X, R y cs)
    (hv : Value.okWide P w .any b0 t v) (h : DataW.Trod enc P w 0 (fun _ => true) true t v d ps) (hlt : ∀ x ∈ ps, x.block < w.heap.size) (hw : ∀ n ∈ d.weights P t, n ≤ reachBytes) :
    ∃ (A : Option Addr) (ys : List X) (c : Nat), v = .slice A ys.length c ∧ ys.length ≤ c ∧ ys.length * P.bytesOf e ≤ 140737488351232 ∧
      ∀ i, i < ys.length → ∃ b off cs, A = some ⟨b, off, none⟩ ∧ b < w.heap.size ∧ cs.length = size ∧ (∀ j, j < size → w.cell? ⟨b, off + i * size + j, none⟩ = cs[j]?) ∧ R (ys.getD i default) cs := by
  obtain ⟨a0, len, cap, rfl⟩ := okWide_slice ht hv
  obtain ⟨fuel, hf⟩ := h
  have er : reachBytes = 140737488351232 := by decide
  rcases open_slice ht hf with ⟨hcs, hx⟩ | ⟨a, len', cap', m, n, D, Pl, hcs, _, hl, hm, hmm, hx, hi⟩
  · simp only [Value.cells, List.cons.injEq, Value.slice.injEq, and_true] at hcs
    obtain ⟨rfl, rfl, rfl⟩ := hcs
    exact ⟨none, [], 0, rfl, Nat.le_refl _, by simp, fun i hi => absurd hi (by simp)⟩
  · simp only [Value.cells, List.cons.injEq, Value.slice.injEq, and_true] at hcs
    obtain ⟨rfl, rfl, rfl⟩ := hcs
    simp only [if_true] at hmm
    subst hmm
    simp only [Prod.mk.injEq] at hx
    obtain ⟨rfl, rfl⟩ := hx
    rw [hc] at hi
    have hwD : ∀ i, i < len → ∀ n ∈ (D i).weights P e, n ≤ reachBytes := fun i hil n hn => hw n (by
      simp only [DataW.weights, ht, List.mem_cons, List.mem_append]
      exact Or.inr (Or.inl (weightsAll_mem (List.mem_map.2 ⟨i, by simpa using hil, rfl⟩) n hn)))
    have hpD : ∀ i, i < len → ∀ p ∈ Pl i, p.block < w.heap.size := fun i hil p hp => hlt p (by
      rw [List.mem_append]
      exact Or.inr (List.mem_flatMap.2 ⟨i, by simp; omega, hp⟩))
    have hlen : len * P.bytesOf e ≤ 140737488351232 := by
      have := hw (((List.range len).map D).length * P.bytesOf e + ((List.range (m - len)).map fun j => D (len + j)).length * P.bytesOf e) (by
        rw [← Nat.add_mul]; simp [DataW.weights, ht])
      rw [er, List.length_map, List.length_range] at this
      omega
    obtain ⟨V, hV⟩ := choose_lt (α := X) (n := len) (p := fun i y => ∃ b off cs, a = ⟨b, off, none⟩ ∧ b < w.heap.size ∧ cs.length = size ∧ (∀ j, j < size → w.cell? ⟨b, off + i * size + j, none⟩ = cs[j]?) ∧ R y cs) (fun i hil => by
      obtain ⟨cs, h1, h2⟩ := hi i (by omega)
      obtain ⟨_, hcl, hat⟩ := World.cells?_some h1
      obtain ⟨y, hy⟩ := elem _ cs _ h2 hcl (hpD i hil) (hwD i hil)
      obtain ⟨cs0, h10, _⟩ := hi 0 (by omega)
      obtain ⟨_, hcl0, hat0⟩ := World.cells?_some h10
      have h0 := hat0 0 hs0
      obtain ⟨b, off, spot⟩ := a
      have hsome : w.cell? (((⟨b, off, spot⟩ : Addr).add (0 * size)).add 0) = some (cs0[0]'(by omega)) := by rw [h0]; exact List.getElem?_eq_getElem _
      have hspot : spot = none := by
        have := World.cell?_spot hsome
        rw [add_add] at this
        unfold Addr.add at this
        simpa using this
      subst hspot
      refine ⟨y, b, off, cs, rfl, ?_, hcl, fun j hj => ?_, hy⟩
      · have := hlt (.cell b off) (by
          rw [List.mem_append]
          left
          unfold MemPlace.row
          rw [List.mem_map]
          refine ⟨0, ?_, by simp⟩
          rw [List.mem_range, hc]
          exact Nat.mul_pos (by omega) hs0)
        exact this
      · have := hat j hj
        rw [add_add, Go.WideShapes.add_plain] at this
        rw [← this, Nat.add_assoc])
    refine ⟨some a, (List.range len).map V, m, by rw [List.length_map, List.length_range], by rw [List.length_map, List.length_range]; omega, by rw [List.length_map, List.length_range]; exact hlen, fun i hil => ?_⟩
    rw [List.length_map, List.length_range] at hil
    obtain ⟨b, off, cs, rfl, h1, h2, h3, h4⟩ := hV i hil
    refine ⟨b, off, cs, rfl, h1, h2, h3, ?_⟩
    have : ((List.range len).map V).getD i default = V i := by
      rw [List.getD_eq_getElem?_getD, List.getElem?_map, List.getElem?_range hil]; rfl
    rw [this]
    exact h4
end Go.Proofs.YtkipjloapdolbaaGreatDoor
