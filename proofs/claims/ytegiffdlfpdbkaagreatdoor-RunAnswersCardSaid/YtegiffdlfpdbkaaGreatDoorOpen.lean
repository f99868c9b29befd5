/- What comes in, opened by its type: integers, bytes, texts, lists of integers, banks. -/
import Derived.Test.YtegiffdlfpdbkaaGreatDoorRows
import Derived.Test.YtegiffdlfpdbkaaGreatDoorBase
import Derived.Test.YtegiffdlfpdbkaaGreatDoorLift
import Derived.Deep.Slices
namespace Go.Proofs.YtegiffdlfpdbkaaGreatDoor
open Go.ChangeShapes Go.WideShapes Go.ChangeAt Go.RowKit Go.WideMaps Go.WideElems
open Go.ChangeMaps (open_string)
set_option maxRecDepth 100000

theorem i64_of_wf {n : Int} (h : (Lit.int .i64 n).wf = true) : I64 n := by
  simp only [Lit.wf, Bool.and_eq_true, decide_eq_true_eq] at h
  have e1 : IntKind.i64.min = -9223372036854775808 := by decide
  have e2 : IntKind.i64.max = 9223372036854775807 := by decide
  rw [e1, e2] at h
  exact h

section
variable {H : Type} {enc : TypeId × Value → H} {w : World} {b0 : Nat} {v : Value} {d : DataW H} {ps : List MemPlace}

theorem op_int (hv : Value.okWide Tryz.prog w .any b0 3 v) (h : DataW.Trod enc Tryz.prog w 0 (fun _ => true) true 3 v d ps) : ∃ n, v = .int .i64 n ∧ I64 n := by
  obtain ⟨n, rfl, _, _, wn⟩ := open_int Tryz.underlying3 hv h
  exact ⟨n, rfl, i64_of_wf wn⟩

theorem op_bool (hv : Value.okWide Tryz.prog w .any b0 4 v) (h : DataW.Trod enc Tryz.prog w 0 (fun _ => true) true 4 v d ps) : ∃ b, v = .bool b := by
  obtain ⟨b, rfl, _, _⟩ := open_bool Tryz.underlying4 hv h
  exact ⟨b, rfl⟩

theorem op_byte (hv : Value.okWide Tryz.prog w .any b0 5 v) (h : DataW.Trod enc Tryz.prog w 0 (fun _ => true) true 5 v d ps) : ∃ c : UInt8, v = .int .u8 (c.toNat : Int) := by
  obtain ⟨n, rfl, _, _, wn⟩ := open_int Tryz.underlying5 hv h
  simp only [Lit.wf, Bool.and_eq_true, decide_eq_true_eq] at wn
  have e1 : IntKind.u8.min = 0 := by decide
  have e2 : IntKind.u8.max = 255 := by decide
  rw [e1, e2] at wn
  refine ⟨UInt8.ofNat n.toNat, ?_⟩
  have : (UInt8.ofNat n.toNat).toNat = n.toNat := by rw [UInt8.toNat_ofNat']; omega
  rw [this]; congr 1; omega

theorem op_str (hv : Value.okWide Tryz.prog w .any b0 9 v) (h : DataW.Trod enc Tryz.prog w 0 (fun _ => true) true 9 v d ps)
    (hw : ∀ n ∈ d.weights Tryz.prog 9, n ≤ reachBytes) : ∃ s, v = .string s ∧ s.size ≤ 140737488351232 := by
  obtain ⟨s, rfl, rfl, _, _⟩ := open_string Tryz.underlying9 hv h
  have := hw s.data.toList.length (by simp [DataW.weights])
  have e : reachBytes = 140737488351232 := by decide
  rw [e, Array.length_toList] at this
  exact ⟨s, rfl, this⟩

theorem w_each {ts : List TypeId} {ds : List (DataW H)} (h : (DataW.weightsEach Tryz.prog ts ds).all (· ≤ reachBytes) = true) (j : Nat) (t : TypeId) (d : DataW H) (ht : ts[j]? = some t) (hd : ds[j]? = some d) :
    ∀ n ∈ d.weights Tryz.prog t, n ≤ reachBytes := fun n hn => by
  have := List.all_eq_true.1 h n (DataW.weights_mem_each ht hd n hn)
  simpa using this

theorem op_ints (hv : Value.okWide Tryz.prog w .any b0 55 v) (h : DataW.Trod enc Tryz.prog w 0 (fun _ => true) true 55 v d ps) (hlt : ∀ x ∈ ps, x.block < w.heap.size)
    (hw : ∀ n ∈ d.weights Tryz.prog 55, n ≤ reachBytes) : ∃ A xs c, v = .slice A xs.length c ∧ IntsAt w A xs ∧ (∀ x ∈ xs, I64 x) ∧ xs.length * 8 ≤ 140737488351232 := by
  obtain ⟨a0, len, cap, rfl⟩ := okWide_slice Tryz.underlying55 hv
  obtain ⟨fuel, hf⟩ := h
  rcases open_ints Tryz.underlying55 Tryz.underlying3 (by kernel_rfl) hf with ⟨hcs, hx⟩ | ⟨a, len', cap', zs, hcs, _, hl, hm, hz, hx, hcell, hwz⟩
  · simp only [Value.cells, List.cons.injEq, Value.slice.injEq, and_true] at hcs
    obtain ⟨rfl, rfl, rfl⟩ := hcs
    exact ⟨none, [], 0, rfl, IntsAt.nil_ _ _, fun x hx => absurd hx (by simp), by simp⟩
  · simp only [Value.cells, List.cons.injEq, Value.slice.injEq, and_true] at hcs
    obtain ⟨rfl, rfl, rfl⟩ := hcs
    simp only [Prod.mk.injEq] at hx
    obtain ⟨rfl, rfl⟩ := hx
    simp only [if_true] at hz
    have hlen : (zs.take len).length = len := by rw [List.length_take]; omega
    have e : reachBytes = 140737488351232 := by decide
    have e8 : Program.bytesOf Tryz.prog 3 = 8 := by kernel_rfl
    have hwt := hw (((lits (H := H) .i64 (zs.take len)).length + (lits (H := H) .i64 (zs.drop len)).length) * Program.bytesOf Tryz.prog 3) (by simp [DataW.weights, Tryz.underlying55])
    rw [e, e8] at hwt
    have hll : ∀ l : List Int, (lits (H := H) .i64 l).length = l.length := fun l => by simp [lits]
    rw [hll, hll, hlen] at hwt
    refine ⟨some a, zs.take len, cap, by rw [hlen], fun i hi => ?_, fun x hx => i64_of_wf (hwz x (List.mem_of_mem_take hx)), by rw [hlen]; omega⟩
    rw [hlen] at hi
    obtain ⟨b, off, rfl, hc⟩ := ints_at hcell (by omega)
    refine ⟨b, off, rfl, hlt (.cell b (off + i)) (by simp [MemPlace.row]; omega), ?_⟩
    rw [hc i (by omega), List.getD_eq_getElem?_getD, List.getD_eq_getElem?_getD, List.getElem?_take_of_lt hi]

/-- A cell of an integer type. -/
theorem cell_int (h : Cell.okWide Tryz.prog w .any b0 3 v) : ∃ n, v = .int .i64 n ∧ I64 n := by
  simp only [Cell.okWide, Cell.ok, Tryz.underlying3] at h
  cases v <;> simp at h
  obtain ⟨rfl, h⟩ := h
  have e1 : IntKind.i64.min = -9223372036854775808 := by decide
  have e2 : IntKind.i64.max = 9223372036854775807 := by decide
  unfold IntKind.has at h
  rw [e1, e2] at h
  exact ⟨_, rfl, h⟩

theorem op_bank (hv : Value.okWide Tryz.prog w .any b0 30 v) :
    ∃ x0 x1 x2 x3 x4 x5 x6 x7, v = .agg #[.int .i64 x0, .int .i64 x1, .int .i64 x2, .int .i64 x3, .int .i64 x4, .int .i64 x5, .int .i64 x6, .int .i64 x7] ∧ I64 x0 ∧ I64 x1 ∧ I64 x2 ∧ I64 x3 ∧ I64 x4 ∧ I64 x5 ∧ I64 x6 ∧ I64 x7 := by
  simp only [Value.okWide, Tryz.underlying30] at hv
  obtain ⟨cs, rfl, hsz, ts, hts, _, hc⟩ := hv
  have e : Program.cellTypes Tryz.prog Tryz.prog.depth 30 = some [3, 3, 3, 3, 3, 3, 3, 3] := by kernel_rfl
  obtain rfl := Option.some.inj (hts.symm.trans e)
  have e8 : Program.cellsOf Tryz.prog 30 = 8 := by kernel_rfl
  rw [e8] at hsz
  have hi : ∀ i (h : i < 8), ∃ n, cs[i]'(by omega) = .int .i64 n ∧ I64 n := fun i h => by
    obtain ⟨u, hu, ho⟩ := hc i (cs[i]'(by omega)) (Array.getElem?_eq_getElem _)
    have : u = 3 := by
      match i, h, hu with
      | 0, _, hu | 1, _, hu | 2, _, hu | 3, _, hu | 4, _, hu | 5, _, hu | 6, _, hu | 7, _, hu => exact (Option.some.inj hu).symm
    subst this
    exact cell_int ho
  obtain ⟨x0, e0, k0⟩ := hi 0 (by omega)
  obtain ⟨x1, e1, k1⟩ := hi 1 (by omega)
  obtain ⟨x2, e2, k2⟩ := hi 2 (by omega)
  obtain ⟨x3, e3, k3⟩ := hi 3 (by omega)
  obtain ⟨x4, e4, k4⟩ := hi 4 (by omega)
  obtain ⟨x5, e5, k5⟩ := hi 5 (by omega)
  obtain ⟨x6, e6, k6⟩ := hi 6 (by omega)
  obtain ⟨x7, e7, k7⟩ := hi 7 (by omega)
  refine ⟨x0, x1, x2, x3, x4, x5, x6, x7, ?_, k0, k1, k2, k3, k4, k5, k6, k7⟩
  congr 1
  apply Array.ext (by simpa using hsz)
  intro i h1 h2
  have h3 : i < 8 := by omega
  match i, h3 with
  | 0, _ => exact e0
  | 1, _ => exact e1
  | 2, _ => exact e2
  | 3, _ => exact e3
  | 4, _ => exact e4
  | 5, _ => exact e5
  | 6, _ => exact e6
  | 7, _ => exact e7

end
end Go.Proofs.YtegiffdlfpdbkaaGreatDoor
