/- What comes in: rules, one and many; rules as cells. -/
import Derived.Test.YtdedllfgeekogaaDoorOpenS
import Derived.Test.YtdedllfgeekogaaDoorRule
import Derived.Test.YtdedllfgeekogaaDoorAppC
namespace Go.Proofs.YtdedllfgeekogaaDoor
open Go.ChangeShapes Go.WideShapes Go.ChangeAt Go.RowKit Go.WideMaps Go.WideElems Go.Deep
set_option maxRecDepth 100000

section
variable {H : Type} {enc : TypeId × Value → H} {w : World} {b0 : Nat} {v : Value} {d : DataW H} {ps : List MemPlace}

theorem ints_of_cells {fuel : Nat} {cs : List Value} {x : DataW H × List MemPlace} (h : DataW.trod enc Tryd.prog w 0 (fun _ => true) true fuel 43 cs = some x) (hlt : ∀ p ∈ x.2, p.block < w.heap.size) (hw : ∀ n ∈ x.1.weights Tryd.prog 43, n ≤ reachBytes) :
    ∃ A xs c, cs = [.slice A xs.length c] ∧ IntsAt w A xs ∧ (∀ y ∈ xs, I64 y) ∧ xs.length * 8 ≤ 140737488351232 := by
  rcases open_ints Tryd.underlying43 Tryd.underlying3 (by kernel_rfl) h with ⟨hcs, hx⟩ | ⟨a, len, cap, zs, hcs, _, hl, hm, hz, hx, hcell, hwz⟩
  · exact ⟨none, [], 0, hcs, IntsAt.nil_ _ _, fun x hx => absurd hx (by simp), by simp⟩
  · subst hx
    simp only [if_true] at hz
    have hlen : (zs.take len).length = len := by rw [List.length_take]; omega
    have e : reachBytes = 140737488351232 := by decide
    have e8 : Program.bytesOf Tryd.prog 3 = 8 := by kernel_rfl
    have hwt := hw (((lits (H := H) .i64 (zs.take len)).length + (lits (H := H) .i64 (zs.drop len)).length) * Program.bytesOf Tryd.prog 3) (by simp [DataW.weights, Tryd.underlying43])
    rw [e, e8] at hwt
    have hll : ∀ l : List Int, (lits (H := H) .i64 l).length = l.length := fun l => by simp [lits]
    rw [hll, hll, hlen] at hwt
    refine ⟨some a, zs.take len, cap, by rw [hlen]; exact hcs, fun i hi => ?_, fun x hx => i64_of_wf (hwz x (List.mem_of_mem_take hx)), by rw [hlen]; omega⟩
    rw [hlen] at hi
    obtain ⟨b, off, rfl, hc⟩ := ints_at hcell (by omega)
    refine ⟨b, off, rfl, hlt (.cell b (off + i)) (by simp [MemPlace.row]; omega), ?_⟩
    rw [hc i (by omega), List.getD_eq_getElem?_getD, List.getD_eq_getElem?_getD, List.getElem?_take_of_lt hi]

/-- What the cells of a rule say. -/
def RuleIs (w : World) (y : Int × List Int) (cs : List Value) : Prop :=
  ∃ A c, cs = [.int .i64 y.1, .slice A y.2.length c] ∧ IntsAt w A y.2 ∧ I64 y.1 ∧ y.2.length * 8 ≤ 140737488351232 ∧ ∀ g ∈ y.2, I64 g

theorem elem_rule {fuel : Nat} {cs : List Value} {x : DataW H × List MemPlace} (h : DataW.trod enc Tryd.prog w 0 (fun _ => true) true fuel 45 cs = some x) (hl : cs.length = 2)
    (hlt : ∀ p ∈ x.2, p.block < w.heap.size) (hw : ∀ n ∈ x.1.weights Tryd.prog 45, n ≤ reachBytes) : ∃ y : Int × List Int, RuleIs w y cs := by
  obtain ⟨y0, y1, n, hx, _, h0, h1⟩ := trod_struct2 Tryd.underlying45 h
  subst hx
  match cs, hl with
  | [c0, c1], _ =>
    have hc : Program.cellsOf Tryd.prog 3 = 1 := by kernel_rfl
    have hs : Program.cellsOf Tryd.prog 43 = 1 := by kernel_rfl
    simp only [hc, hs, List.drop_zero, List.take_succ_cons, List.take_zero, List.drop_succ_cons] at h0 h1
    obtain ⟨a, e0, _, wa⟩ := DataW.trod_int Tryd.underlying3 h0
    obtain ⟨A, g, c, e1, hI, hg, hz⟩ := ints_of_cells h1 (fun p hp => hlt p (List.mem_append.2 (Or.inr hp))) (fun k hk => hw k (by
      simp only [DataW.weights, Tryd.underlying45, DataW.weightsEach, List.map_cons, List.map_nil]
      exact List.mem_append.2 (Or.inr (List.mem_append.2 (Or.inl hk)))))
    simp only [List.cons.injEq, and_true] at e0 e1
    exact ⟨(a, g), A, c, by rw [e0, e1], hI, i64_of_wf wa, hz, hg⟩

theorem op_rules (hv : Value.okWide Tryd.prog w .any b0 42 v) (h : DataW.Trod enc Tryd.prog w 0 (fun _ => true) true 42 v d ps) (hlt : ∀ x ∈ ps, x.block < w.heap.size)
    (hw : ∀ n ∈ d.weights Tryd.prog 42, n ≤ reachBytes) : ∃ A rs c, v = .slice A rs.length c ∧ RulesAt w A rs ∧ rs.length * 32 ≤ 140737488351232 ∧ rs.length ≤ c ∧ ∀ r ∈ rs, r.2.length * 8 ≤ 140737488351232 := by
  obtain ⟨A, es, c, e1, e2, e3, e4⟩ := op_slice (X := Int × List Int) (RuleIs w) 2 Tryd.underlying42 (by kernel_rfl) (by decide)
    (fun fuel cs x hx hl hp hwt => elem_rule hx hl hp hwt) hv h hlt hw
  have e32 : Program.bytesOf Tryd.prog 45 = 32 := by kernel_rfl
  rw [e32] at e3
  have hat : ∀ i, i < es.length → ∃ b off GA gc, A = some ⟨b, off, none⟩ ∧ b < w.heap.size ∧ w.cell? ⟨b, off + i * 2, none⟩ = some (.int .i64 (es.getD i (0, [])).1) ∧ w.cell? ⟨b, off + i * 2 + 1, none⟩ = some (.slice GA (es.getD i (0, [])).2.length gc) ∧ IntsAt w GA (es.getD i (0, [])).2 ∧ (es.getD i (0, [])).2.length * 8 ≤ 140737488351232 := fun i hi => by
    obtain ⟨b, off, cs, hA, hb, _, hc, GA, gc, hR, hI, _, hz, _⟩ := e4 i hi
    have hdef : es.getD i default = es.getD i (0, []) := rfl
    rw [hdef] at hR hI hz
    subst hR
    have h0 := hc 0 (by decide)
    have h1 := hc 1 (by decide)
    exact ⟨b, off, GA, gc, hA, hb, by rw [Nat.add_zero] at h0; exact h0, h1, hI, hz⟩
  refine ⟨A, es, c, e1, fun i hi => ?_, e3, e2, fun r hr => ?_⟩
  · obtain ⟨b, off, GA, gc, hA, hb, h0, h1, hI, _⟩ := hat i hi
    exact ⟨b, off, GA, gc, hA, hb, h0, h1, hI⟩
  · obtain ⟨i, hi, rfl⟩ := List.mem_iff_getElem.1 hr
    obtain ⟨_, _, _, _, _, _, _, _, _, hz⟩ := hat i hi
    rw [List.getD_eq_getElem?_getD, List.getElem?_eq_getElem hi] at hz
    exact hz
end
end Go.Proofs.YtdedllfgeekogaaDoor
