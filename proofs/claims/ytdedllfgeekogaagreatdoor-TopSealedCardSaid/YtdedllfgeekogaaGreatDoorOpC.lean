/- What comes in: certs; certs as cells. -/
import Derived.Test.YtdedllfgeekogaaGreatDoorOpenS
import Derived.Test.YtdedllfgeekogaaGreatDoorCert
import Derived.Test.YtdedllfgeekogaaGreatDoorApp
namespace Go.Proofs.YtdedllfgeekogaaGreatDoor
open Go.ChangeShapes Go.WideShapes Go.ChangeAt Go.RowKit Go.WideMaps Go.WideElems Go.Deep
set_option maxRecDepth 100000

section
variable {H : Type} {enc : TypeId × Value → H} {w : World} {b0 : Nat} {v : Value} {d : DataW H} {ps : List MemPlace}

theorem elem_cert {fuel : Nat} {cs : List Value} {x : DataW H × List MemPlace} (h : DataW.trod enc Tryz.prog w 0 (fun _ => true) true fuel 186 cs = some x) (hl : cs.length = 3) :
    ∃ y : Int × Int × Int, cs = [.int .i64 y.1, .int .i64 y.2.1, .int .i64 y.2.2] ∧ I64 y.1 ∧ I64 y.2.1 ∧ I64 y.2.2 := by
  obtain ⟨y0, y1, n, _, _, h0, h1⟩ := trod_struct2 Tryz.underlying186 h
  match cs, hl with
  | [c0, c1, c2], _ =>
    have hc : Program.cellsOf Tryz.prog 3 = 1 := by kernel_rfl
    have hs : Program.cellsOf Tryz.prog 30 = 2 := by kernel_rfl
    simp only [hc, hs, List.drop_zero, List.take_succ_cons, List.take_zero, List.drop_succ_cons] at h0 h1
    obtain ⟨a, e0, _, wa⟩ := DataW.trod_int Tryz.underlying3 h0
    obtain ⟨z0, z1, n2, _, _, k0, k1⟩ := trod_struct2 Tryz.underlying30 h1
    simp only [hc, List.drop_zero, List.take_succ_cons, List.take_zero, List.drop_succ_cons] at k0 k1
    obtain ⟨b, e1, _, wb⟩ := DataW.trod_int Tryz.underlying3 k0
    obtain ⟨c, e2, _, wc⟩ := DataW.trod_int Tryz.underlying3 k1
    simp only [List.cons.injEq, and_true] at e0 e1 e2
    exact ⟨(a, b, c), by rw [e0, e1, e2], i64_of_wf wa, i64_of_wf wb, i64_of_wf wc⟩

theorem op_certs (hv : Value.okWide Tryz.prog w .any b0 61 v) (h : DataW.Trod enc Tryz.prog w 0 (fun _ => true) true 61 v d ps) (hlt : ∀ x ∈ ps, x.block < w.heap.size)
    (hw : ∀ n ∈ d.weights Tryz.prog 61, n ≤ reachBytes) : ∃ A cs c, v = .slice A cs.length c ∧ CertsAt w A cs ∧ cs.length * 24 ≤ 140737488351232 ∧ cs.length ≤ c := by
  obtain ⟨A, es, c, e1, e2, e3, e4⟩ := op_slice (X := Int × Int × Int) (fun y cs => cs = [.int .i64 y.1, .int .i64 y.2.1, .int .i64 y.2.2] ∧ I64 y.1 ∧ I64 y.2.1 ∧ I64 y.2.2) 3 Tryz.underlying61 (by kernel_rfl) (by decide)
    (fun fuel cs x hx hl _ _ => elem_cert hx hl) hv h hlt hw
  have e24 : Program.bytesOf Tryz.prog 186 = 24 := by kernel_rfl
  rw [e24] at e3
  have hdef : ∀ i, es.getD i default = es.getD i (0, 0, 0) := fun i => rfl
  refine ⟨A, es, c, e1, fun i hi => ?_, e3, e2⟩
  obtain ⟨b, off, cs, hA, hb, _, hc, hR, _, _⟩ := e4 i hi
  subst hR
  have h0 := hc 0 (by decide)
  have h1 := hc 1 (by decide)
  have h2 := hc 2 (by decide)
  exact ⟨b, off, hA, hb, by rw [Nat.add_zero] at h0; exact h0, h1, h2⟩
end

/-! Certs as cells, and parts of a list of certs. -/
def certCells (cs : List (Int × Int × Int)) : List Value := cs.flatMap fun e => [.int .i64 e.1, .int .i64 e.2.1, .int .i64 e.2.2]
theorem certCells_len (cs : List (Int × Int × Int)) : (certCells cs).length = cs.length * 3 := by
  induction cs with
  | nil => rfl
  | cons e es ih => unfold certCells at *; rw [List.flatMap_cons, List.length_append, ih]; simp; omega
theorem certCells_append (es fs : List (Int × Int × Int)) : certCells (es ++ fs) = certCells es ++ certCells fs := by unfold certCells; rw [List.flatMap_append]
theorem certCells_one (cs : List (Int × Int × Int)) : ∀ u ∈ certCells cs, u.oneCell' = true := fun u hu => by
  unfold certCells at hu
  obtain ⟨e, _, h⟩ := List.mem_flatMap.1 hu
  simp only [List.mem_cons, List.not_mem_nil, or_false] at h
  rcases h with rfl | rfl | rfl <;> rfl
theorem certCells_at : ∀ (es : List (Int × Int × Int)) (i : Nat), i < es.length → (certCells es)[i * 3]? = some (.int .i64 (es.getD i (0, 0, 0)).1) ∧ (certCells es)[i * 3 + 1]? = some (.int .i64 (es.getD i (0, 0, 0)).2.1) ∧ (certCells es)[i * 3 + 2]? = some (.int .i64 (es.getD i (0, 0, 0)).2.2)
  | e :: es, 0, _ => ⟨rfl, rfl, rfl⟩
  | e :: es, i + 1, h => by
    have ih := certCells_at es i (by simpa using h)
    have e1 : (i + 1) * 3 = i * 3 + 3 := by omega
    have e2 : (i + 1) * 3 + 1 = i * 3 + 1 + 3 := by omega
    have e3 : (i + 1) * 3 + 2 = i * 3 + 2 + 3 := by omega
    have e4 : certCells (e :: es) = .int .i64 e.1 :: .int .i64 e.2.1 :: .int .i64 e.2.2 :: certCells es := by unfold certCells; rw [List.flatMap_cons]; rfl
    have c : ∀ j, (certCells (e :: es))[j + 3]? = (certCells es)[j]? := fun j => by rw [e4]; rfl
    rw [e3, e2, e1, c, c, c]
    exact ih
theorem CertsAt.of_cells {w : World} {A : Option Addr} {es : List (Int × Int × Int)} (h : CellsAt w A (certCells es)) : CertsAt w A es := fun i hi => by
  obtain ⟨h1, h2, h3⟩ := certCells_at es i hi
  obtain ⟨b, off, e, hb, c1⟩ := h _ _ h1
  obtain ⟨b', off', e', _, c2⟩ := h _ _ h2
  obtain ⟨b'', off'', e'', _, c3⟩ := h _ _ h3
  rw [e] at e' e''
  injection e' with e'; injection e' with q1 q2; subst q1; subst q2
  injection e'' with e''; injection e'' with q1 q2; subst q1; subst q2
  exact ⟨b, off, e, hb, c1, by rw [← Nat.add_assoc] at c2; exact c2, by rw [← Nat.add_assoc] at c3; exact c3⟩
theorem CertsAt.take_ {w : World} {A : Option Addr} {cs : List (Int × Int × Int)} (h : CertsAt w A cs) (n : Nat) : CertsAt w A (cs.take n) := fun i hi => by
  rw [List.length_take] at hi
  obtain ⟨b, off, e, hb, h1, h2, h3⟩ := h i (by omega)
  have g : (cs.take n).getD i (0, 0, 0) = cs.getD i (0, 0, 0) := by
    rw [List.getD_eq_getElem?_getD, List.getD_eq_getElem?_getD, List.getElem?_take_of_lt (by omega)]
  rw [g]
  exact ⟨b, off, e, hb, h1, h2, h3⟩
theorem CertsAt.drop_ {w : World} {b off : Nat} {cs : List (Int × Int × Int)} (h : CertsAt w (some ⟨b, off, none⟩) cs) (n : Nat) : CertsAt w (some ⟨b, off + n * 3, none⟩) (cs.drop n) := fun i hi => by
  rw [List.length_drop] at hi
  obtain ⟨b', off', e, hb, h1, h2, h3⟩ := h (n + i) (by omega)
  injection e with e; injection e with q1 q2; subst q1; subst q2
  have g : (cs.drop n).getD i (0, 0, 0) = cs.getD (n + i) (0, 0, 0) := by
    rw [List.getD_eq_getElem?_getD, List.getD_eq_getElem?_getD, List.getElem?_drop]
  have a : off + n * 3 + i * 3 = off + (n + i) * 3 := by omega
  rw [g]
  rw [← a] at h1 h2 h3
  exact ⟨b, _, rfl, hb, h1, h2, h3⟩

end Go.Proofs.YtdedllfgeekogaaGreatDoor
