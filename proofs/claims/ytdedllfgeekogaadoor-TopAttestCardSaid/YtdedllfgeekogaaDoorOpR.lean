/- What comes in: rules, one and many; rules as cells. One rule that comes in; rules as cells; rules that are appended. -/
import Derived.Test.YtdedllfgeekogaaDoorOpenS
import Derived.Test.YtdedllfgeekogaaDoorRule
import Derived.Test.YtdedllfgeekogaaDoorApp
namespace Go.Proofs.YtdedllfgeekogaaDoor
open Go.ChangeShapes Go.WideShapes Go.ChangeAt Go.RowKit Go.WideMaps Go.WideElems Go.Deep
set_option maxRecDepth 100000

section
variable {H : Type} {enc : TypeId × Value → H} {w : World} {b0 : Nat} {v : Value} {d : DataW H} {ps : List MemPlace}

theorem ints_of_cells {fuel : Nat} {cs : List Value} {x : DataW H × List MemPlace} (h : DataW.trod enc Tryd.prog w 0 (fun _ => true) true fuel 43 cs = some x) (hlt : ∀ p ∈ x.2, p.block < w.heap.size) (hw : ∀ n ∈ x.1.weights Tryd.prog 43, n ≤ reachBytes) :
    ∃ A xs c, cs = [.slice A xs.length c] ∧ IntsAt w A xs ∧ (∀ y ∈ xs, I64 y) ∧ xs.length * 8 ≤ 140737488351232 := by
  rcases open_ints Tryd.underlying43 Tryd.underlying3 (by kernel_rfl) h with ⟨hcs, hx⟩ | ⟨a, len, cap, zs, hcs, _, hl, hm, hz, hx, hcell, hwz⟩
  · exact ⟨none, [], 0, hcs, IntsAt.nil_ _ _, fun x hx => absurd hx (by simp), by simp⟩
  · subst hx
    simp only [if_true] at hz
    have hlen : (zs.take len).length = len := by rw [List.length_take]; omega
    have e : reachBytes = 140737488351232 := by decide
    have e8 : Program.bytesOf Tryd.prog 3 = 8 := by kernel_rfl
    have hwt := hw (((lits (H := H) .i64 (zs.take len)).length + (lits (H := H) .i64 (zs.drop len)).length) * Program.bytesOf Tryd.prog 3) (by simp [DataW.weights, Tryd.underlying43])
    rw [e, e8] at hwt
    have hll : ∀ l : List Int, (lits (H := H) .i64 l).length = l.length := fun l => by simp [lits]
    rw [hll, hll, hlen] at hwt
    refine ⟨some a, zs.take len, cap, by rw [hlen]; exact hcs, fun i hi => ?_, fun x hx => i64_of_wf (hwz x (List.mem_of_mem_take hx)), by rw [hlen]; omega⟩
    rw [hlen] at hi
    obtain ⟨b, off, rfl, hc⟩ := ints_at hcell (by omega)
    refine ⟨b, off, rfl, hlt (.cell b (off + i)) (by simp [MemPlace.row]; omega), ?_⟩
    rw [hc i (by omega), List.getD_eq_getElem?_getD, List.getD_eq_getElem?_getD, List.getElem?_take_of_lt hi]

/-- What the cells of a rule say. -/
def RuleIs (w : World) (y : Int × List Int) (cs : List Value) : Prop :=
  ∃ A c, cs = [.int .i64 y.1, .slice A y.2.length c] ∧ IntsAt w A y.2 ∧ I64 y.1 ∧ y.2.length * 8 ≤ 140737488351232 ∧ ∀ g ∈ y.2, I64 g

theorem elem_rule {fuel : Nat} {cs : List Value} {x : DataW H × List MemPlace} (h : DataW.trod enc Tryd.prog w 0 (fun _ => true) true fuel 45 cs = some x) (hl : cs.length = 2)
    (hlt : ∀ p ∈ x.2, p.block < w.heap.size) (hw : ∀ n ∈ x.1.weights Tryd.prog 45, n ≤ reachBytes) : ∃ y : Int × List Int, RuleIs w y cs := by
  obtain ⟨y0, y1, n, hx, _, h0, h1⟩ := trod_struct2 Tryd.underlying45 h
  subst hx
  match cs, hl with
  | [c0, c1], _ =>
    have hc : Program.cellsOf Tryd.prog 3 = 1 := by kernel_rfl
    have hs : Program.cellsOf Tryd.prog 43 = 1 := by kernel_rfl
    simp only [hc, hs, List.drop_zero, List.take_succ_cons, List.take_zero, List.drop_succ_cons] at h0 h1
    obtain ⟨a, e0, _, wa⟩ := DataW.trod_int Tryd.underlying3 h0
    obtain ⟨A, g, c, e1, hI, hg, hz⟩ := ints_of_cells h1 (fun p hp => hlt p (List.mem_append.2 (Or.inr hp))) (fun k hk => hw k (by
      simp only [DataW.weights, Tryd.underlying45, DataW.weightsEach, List.map_cons, List.map_nil]
      exact List.mem_append.2 (Or.inr (List.mem_append.2 (Or.inl hk)))))
    simp only [List.cons.injEq, and_true] at e0 e1
    exact ⟨(a, g), A, c, by rw [e0, e1], hI, i64_of_wf wa, hz, hg⟩

theorem op_rules (hv : Value.okWide Tryd.prog w .any b0 42 v) (h : DataW.Trod enc Tryd.prog w 0 (fun _ => true) true 42 v d ps) (hlt : ∀ x ∈ ps, x.block < w.heap.size)
    (hw : ∀ n ∈ d.weights Tryd.prog 42, n ≤ reachBytes) : ∃ A rs c, v = .slice A rs.length c ∧ RulesAt w A rs ∧ rs.length * 32 ≤ 140737488351232 ∧ rs.length ≤ c ∧ ∀ r ∈ rs, r.2.length * 8 ≤ 140737488351232 := by
  obtain ⟨A, es, c, e1, e2, e3, e4⟩ := op_slice (X := Int × List Int) (RuleIs w) 2 Tryd.underlying42 (by kernel_rfl) (by decide)
    (fun fuel cs x hx hl hp hwt => elem_rule hx hl hp hwt) hv h hlt hw
  have e32 : Program.bytesOf Tryd.prog 45 = 32 := by kernel_rfl
  rw [e32] at e3
  have hat : ∀ i, i < es.length → ∃ b off GA gc, A = some ⟨b, off, none⟩ ∧ b < w.heap.size ∧ w.cell? ⟨b, off + i * 2, none⟩ = some (.int .i64 (es.getD i (0, [])).1) ∧ w.cell? ⟨b, off + i * 2 + 1, none⟩ = some (.slice GA (es.getD i (0, [])).2.length gc) ∧ IntsAt w GA (es.getD i (0, [])).2 ∧ (es.getD i (0, [])).2.length * 8 ≤ 140737488351232 := fun i hi => by
    obtain ⟨b, off, cs, hA, hb, _, hc, GA, gc, hR, hI, _, hz, _⟩ := e4 i hi
    have hdef : es.getD i default = es.getD i (0, []) := rfl
    rw [hdef] at hR hI hz
    subst hR
    have h0 := hc 0 (by decide)
    have h1 := hc 1 (by decide)
    exact ⟨b, off, GA, gc, hA, hb, by rw [Nat.add_zero] at h0; exact h0, h1, hI, hz⟩
  refine ⟨A, es, c, e1, fun i hi => ?_, e3, e2, fun r hr => ?_⟩
  · obtain ⟨b, off, GA, gc, hA, hb, h0, h1, hI, _⟩ := hat i hi
    exact ⟨b, off, GA, gc, hA, hb, h0, h1, hI⟩
  · obtain ⟨i, hi, rfl⟩ := List.mem_iff_getElem.1 hr
    obtain ⟨_, _, _, _, _, _, _, _, _, hz⟩ := hat i hi
    rw [List.getD_eq_getElem?_getD, List.getElem?_eq_getElem hi] at hz
    exact hz
end
end Go.Proofs.YtdedllfgeekogaaDoor

namespace Go.Proofs.YtdedllfgeekogaaDoor
open Go.ChangeShapes Go.WideShapes Go.ChangeAt Go.RowKit Go.WideMaps Go.WideElems Go.Deep
set_option maxRecDepth 100000

theorem op_rule {H : Type} {enc : TypeId × Value → H} {w : World} {b0 : Nat} {v : Value} {d : DataW H} {ps : List MemPlace} (hv : Value.okWide Tryd.prog w .any b0 45 v) (h : DataW.Trod enc Tryd.prog w 0 (fun _ => true) true 45 v d ps) (hlt : ∀ x ∈ ps, x.block < w.heap.size)
    (hw : ∀ n ∈ d.weights Tryd.prog 45, n ≤ reachBytes) : ∃ x A g c, v = .agg #[.int .i64 x, .slice A g.length c] ∧ IntsAt w A g ∧ I64 x ∧ g.length * 8 ≤ 140737488351232 := by
  simp only [Value.okWide, Tryd.underlying45] at hv
  obtain ⟨cs, rfl, hsz, _⟩ := hv
  obtain ⟨fuel, hf⟩ := h
  have e8 : Program.cellsOf Tryd.prog 45 = 2 := by kernel_rfl
  rw [e8] at hsz
  have hf' : DataW.trod enc Tryd.prog w 0 (fun _ => true) true fuel 45 cs.toList = some (d, ps) := hf
  obtain ⟨⟨x, g⟩, A, c, e, hI, ix, hz, _⟩ := elem_rule hf' (by simpa using hsz) hlt hw
  refine ⟨x, A, g, c, ?_, hI, ix, hz⟩
  congr 1
  rw [← Array.toArray_toList (xs := cs), e]

/-- What the cells of rules say. -/
def RCells (w : World) (rs : List (Int × List Int)) (cs : List Value) : Prop :=
  cs.length = rs.length * 2 ∧ ∀ i, i < rs.length → ∃ GA gc, cs[i * 2]? = some (.int .i64 (rs.getD i (0, [])).1) ∧ cs[i * 2 + 1]? = some (.slice GA (rs.getD i (0, [])).2.length gc) ∧ IntsAt w GA (rs.getD i (0, [])).2
theorem RCells.below {w w' : World} {rs : List (Int × List Int)} {cs : List Value} (h : RCells w rs cs) (hb : Below w.heap.size w w') : RCells w' rs cs :=
  ⟨h.1, fun i hi => by obtain ⟨GA, gc, h1, h2, h3⟩ := h.2 i hi; exact ⟨GA, gc, h1, h2, h3.below hb⟩⟩
theorem RCells.nil_ (w : World) : RCells w [] [] := ⟨rfl, fun i hi => absurd hi (by simp)⟩
theorem RCells.snoc {w : World} {rs : List (Int × List Int)} {cs : List Value} (h : RCells w rs cs) {x : Int} {g : List Int} {GA : Option Addr} {gc : Nat} (hI : IntsAt w GA g) : RCells w (rs ++ [(x, g)]) (cs ++ [.int .i64 x, .slice GA g.length gc]) := by
  refine ⟨by simp [h.1]; omega, fun i hi => ?_⟩
  rw [List.length_append, List.length_singleton] at hi
  by_cases hlt : i < rs.length
  · obtain ⟨A, c, h1, h2, h3⟩ := h.2 i hlt
    have e : (rs ++ [(x, g)]).getD i (0, []) = rs.getD i (0, []) := by
      rw [List.getD_eq_getElem?_getD, List.getD_eq_getElem?_getD, List.getElem?_append_left hlt]
    rw [e]
    exact ⟨A, c, by rw [List.getElem?_append_left (by rw [h.1]; omega)]; exact h1, by rw [List.getElem?_append_left (by rw [h.1]; omega)]; exact h2, h3⟩
  · obtain rfl : i = rs.length := by omega
    have e : (rs ++ [(x, g)]).getD rs.length (0, []) = (x, g) := by
      rw [List.getD_eq_getElem?_getD, List.getElem?_append_right (Nat.le_refl _), Nat.sub_self]; rfl
    rw [e]
    refine ⟨GA, gc, ?_, ?_, hI⟩
    · rw [List.getElem?_append_right (by rw [h.1]; omega), h.1, Nat.sub_self]; rfl
    · rw [List.getElem?_append_right (by rw [h.1]; omega), h.1, show rs.length * 2 + 1 - rs.length * 2 = 1 from by omega]; rfl
theorem RulesAt.of_cells {w : World} {A : Option Addr} {rs : List (Int × List Int)} {cs : List Value} (h : RCells w rs cs) (hc : CellsAt w A cs) : RulesAt w A rs := fun i hi => by
  obtain ⟨GA, gc, h1, h2, h3⟩ := h.2 i hi
  obtain ⟨b, off, e, hb, c1⟩ := hc _ _ h1
  obtain ⟨b', off', e', _, c2⟩ := hc _ _ h2
  rw [e] at e'
  injection e' with e'; injection e' with q1 q2; subst q1; subst q2
  exact ⟨b, off, GA, gc, e, hb, c1, by rw [← Nat.add_assoc] at c2; exact c2, h3⟩
theorem RulesAt.rcells {w : World} {A : Option Addr} : ∀ {rs : List (Int × List Int)}, RulesAt w A rs → ∃ cs, RCells w rs cs ∧ CellsAt w A cs ∧ ∀ u ∈ cs, u.oneCell' = true := by
  intro rs
  induction hn : rs.length generalizing rs with
  | zero =>
    intro _
    obtain rfl := List.eq_nil_of_length_eq_zero hn
    exact ⟨[], RCells.nil_ _, fun j u hu => absurd hu (by simp), fun u hu => absurd hu (by simp)⟩
  | succ n ih =>
    intro h
    have hs : rs = rs.take n ++ [rs.getD n (0, [])] := by
      rw [← take_snoc rs (0, []) n (by omega), List.take_of_length_le (by omega)]
    have ht : RulesAt w A (rs.take n) := fun i hi => by
      rw [List.length_take] at hi
      have e : (rs.take n).getD i (0, []) = rs.getD i (0, []) := by rw [List.getD_eq_getElem?_getD, List.getD_eq_getElem?_getD, List.getElem?_take_of_lt (by omega)]
      rw [e]
      exact h i (by omega)
    have hlt : (rs.take n).length = n := by rw [List.length_take]; omega
    obtain ⟨cs, h1, h2, h3⟩ := ih hlt ht
    obtain ⟨b, off, GA, gc, e, hb, c1, c2, hI⟩ := h n (by omega)
    obtain ⟨⟨x, g⟩, hx⟩ : ∃ y, rs.getD n (0, []) = y := ⟨_, rfl⟩
    rw [hx] at hs c1 c2 hI
    rw [hs]
    refine ⟨cs ++ [.int .i64 x, .slice GA g.length gc], h1.snoc hI, fun j u hu => ?_, fun u hu => ?_⟩
    · by_cases hj : j < cs.length
      · rw [List.getElem?_append_left hj] at hu
        exact h2 j u hu
      · rw [List.getElem?_append_right (by omega)] at hu
        have hl := h1.1
        rw [hlt] at hl
        have hj2 : j - cs.length < 2 := by
          have := (List.getElem?_eq_some_iff.1 hu).1
          simpa using this
        refine ⟨b, off, e, hb, ?_⟩
        rcases (by omega : j = cs.length ∨ j = cs.length + 1) with rfl | rfl
        · rw [Nat.sub_self] at hu
          obtain rfl : Value.int .i64 x = u := Option.some.inj hu
          rw [hl]; exact c1
        · rw [show cs.length + 1 - cs.length = 1 from by omega] at hu
          obtain rfl : Value.slice GA g.length gc = u := Option.some.inj hu
          rw [hl, ← Nat.add_assoc]; exact c2
    · rw [List.mem_append] at hu
      rcases hu with hu | hu
      · exact h3 u hu
      · simp only [List.mem_cons, List.not_mem_nil, or_false] at hu
        rcases hu with rfl | rfl <;> rfl
theorem rule_new (w : World) (x : Int) (g : List Int) (GA : Option Addr) (gc : Nat) (hI : IntsAt w GA g) (fr : Nat × Nat) :
    RulesAt (w.alloc (.cells #[.int .i64 x, .slice GA g.length gc] 45 fr)) (some ⟨w.heap.size, 0, none⟩) [(x, g)] :=
  RulesAt.of_cells (((RCells.nil_ w).snoc (x := x) hI).below (grow_alloc (grow_refl _) _)) (CellsAt.new_ w 45 [.int .i64 x, .slice GA g.length gc] fr)

/-! Plain: who is alike where it counts. -/
theorem bitM_nat (n k : Nat) : bitM (n : Int) k = n.testBit k := by
  unfold bitM
  have e : ((n : Int) / 2 ^ k) = ((n / 2 ^ k : Nat) : Int) := by rw [Int.natCast_ediv, Int.natCast_pow]; rfl
  rw [e, Nat.testBit_eq_decide_div_mod_eq]
  have : (((n / 2 ^ k : Nat) : Int) % 2 == 1) = decide (n / 2 ^ k % 2 = 1) := by
    rw [Bool.eq_iff_iff, beq_iff_eq, decide_eq_true_eq]; omega
  exact this
theorem told_alike {a b : List Int} {m : Int} (h : toldM a m = toldM b m) (i : Nat) (hi : i < 8) (hb : bitM m i = true) : a.getD i 0 = b.getD i 0 := by
  unfold toldM toldK at h
  have h2 := (List.map_inj_left.1 h) i (List.mem_filter.2 ⟨List.mem_range.2 hi, hb⟩)
  exact h2
theorem fit_alike {rs : List (Int × List Int)} {a b : List Int} (hr : rulesE rs = 0) (h : toldM a (maskM rs) = toldM b (maskM rs)) : fitM rs a = fitM rs b := by
  have hm : maskM rs = (askN rs : Int) := by unfold maskM; rw [if_pos hr]
  rw [hm] at h
  unfold fitM
  congr 1
  rw [Bool.eq_iff_iff, List.any_eq_true, List.any_eq_true]
  have hf : ∀ r ∈ rs, fitBad a r = fitBad b r := fun r hr2 => by
    have hreg := okReg_yes ((rulesE_ok hr).2 r hr2).1
    have hbit : bitM (askN rs : Int) r.1.toNat = true := by
      rw [bitM_nat]
      have : ∀ (l : List (Int × List Int)) (m : Nat), (l.foldl (fun m r => m ||| 2 ^ r.1.toNat) m).testBit r.1.toNat = (m.testBit r.1.toNat || l.any (fun s => s.1.toNat == r.1.toNat)) := by
        intro l
        induction l with
        | nil => intro m; simp
        | cons s l ih =>
          intro m
          rw [List.foldl_cons, ih, Nat.testBit_or, Nat.testBit_two_pow, List.any_cons, Bool.or_assoc]
          congr 1
      unfold askN
      rw [this, List.any_eq_true.2 ⟨r, hr2, by simp⟩, Bool.or_true]
    unfold fitBad
    rw [told_alike h r.1.toNat (by omega) hbit]
  constructor
  · rintro ⟨r, h1, h2⟩; exact ⟨r, h1, by rw [← hf r h1]; exact h2⟩
  · rintro ⟨r, h1, h2⟩; exact ⟨r, h1, by rw [hf r h1]; exact h2⟩
theorem fit_more {rs : List (Int × List Int)} {x : Int} {g : List Int} {b : List Int} (h : fitM (rs ++ [(x, g)]) b = true) : fitM rs b = true ∧ 0 < g.length := by
  unfold fitM at h ⊢
  rw [List.any_append] at h
  simp only [List.any_cons, List.any_nil, Bool.or_false, Bool.not_eq_true', Bool.or_eq_false_iff] at h
  refine ⟨by rw [h.1]; rfl, ?_⟩
  have h2 := h.2
  unfold fitBad at h2
  rcases g with _ | ⟨y, g⟩
  · simp at h2
  · simp
theorem fitsE_zero {rs : List (Int × List Int)} {b : List Int} (h : fitsE rs b = 0) : rulesE rs = 0 ∧ b.all okM = true := by
  unfold fitsE at h
  by_cases h2 : rulesE rs = 0
  · rw [if_pos h2] at h
    refine ⟨h2, ?_⟩
    cases h3 : b.all okM
    · rw [bankE_no h3] at h; exact absurd h (by decide)
    · rfl
  · rw [if_neg h2] at h; exact absurd h h2
end Go.Proofs.YtdedllfgeekogaaDoor
