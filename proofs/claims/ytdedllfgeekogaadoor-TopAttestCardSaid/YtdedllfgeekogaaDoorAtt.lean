/- Lists of signed images, and of rules, that a call itself makes: appended to, set, and read. Rules of just what a bank is, in plain words. -/
import Derived.Test.YtdedllfgeekogaaDoorRows
import Derived.Test.YtdedllfgeekogaaDoorNum
import Derived.Test.YtdedllfgeekogaaDoorBase
import Derived.Test.YtdedllfgeekogaaDoorApp
import Derived.Test.YtdedllfgeekogaaDoorFoot
import Derived.Test.YtdedllfgeekogaaDoorOpI
import Derived.Test.YtdedllfgeekogaaDoorRule
import Derived.Test.YtdedllfgeekogaaDoorOpR
import Derived.Test.YtdedllfgeekogaaDoorKeep
import Derived.WalkKit
import Derived.Test.YtdedllfgeekogaaDoorJdPlain
import Derived.Test.YtdedllfgeekogaaDoorBootP
namespace Go.Proofs.YtdedllfgeekogaaDoor
open Go.RowKit
set_option maxRecDepth 100000
set_option linter.unusedVariables false
set_option linter.unusedSimpArgs false

theorem infoSg_A : (Tryd.prog.info? 34).map (fun i => (i.zero, i.size, i.bytes)) = some (some (.agg #[.string ⟨#[]⟩, .int .i64 0, .string ⟨#[]⟩, .int .i64 0, .int .i64 0]), 5, 56) := by kernel_rfl
def sgCells (ss : List Sgn) : List Value := ss.flatMap sgnCs
theorem sgCells_cons (z : Sgn) (ss : List Sgn) : sgCells (z :: ss) = .string z.1 :: .int .i64 z.2.1 :: .string z.2.2.1 :: .int .i64 z.2.2.2.1 :: .int .i64 z.2.2.2.2 :: sgCells ss := by unfold sgCells; rw [List.flatMap_cons]; rfl
theorem sgCells_len : ∀ ss : List Sgn, (sgCells ss).length = ss.length * 5
  | [] => rfl
  | z :: r => by rw [sgCells_cons]; simp [sgCells_len r]; omega
theorem sgCells_append (es fs : List Sgn) : sgCells (es ++ fs) = sgCells es ++ sgCells fs := by unfold sgCells; rw [List.flatMap_append]
theorem sgCells_one (es : List Sgn) : ∀ u ∈ sgCells es, u.oneCell' = true := fun u hu => by
  unfold sgCells at hu
  obtain ⟨e, _, h⟩ := List.mem_flatMap.1 hu
  unfold sgnCs at h
  simp only [List.mem_cons, List.not_mem_nil, or_false] at h
  rcases h with rfl | rfl | rfl | rfl | rfl <;> rfl
theorem sgCells_at : ∀ (es : List Sgn) (i j : Nat), i < es.length → j < 5 → (sgCells es)[i * 5 + j]? = (sgnCs (es.getD i noSgn))[j]?
  | e :: es, 0, j, _, hj => by
    rw [sgCells_cons]
    match j, hj with
    | 0, _ | 1, _ | 2, _ | 3, _ | 4, _ => rfl
  | e :: es, i + 1, j, h, hj => by
    have ih := sgCells_at es i j (by simpa using h) hj
    have e1 : (i + 1) * 5 + j = i * 5 + j + 1 + 1 + 1 + 1 + 1 := by omega
    rw [sgCells_cons, e1]
    simp only [List.getElem?_cons_succ]
    rw [ih]
    simp
theorem sgCells_set : ∀ (es : List Sgn) (i : Nat) (z : Sgn), i < es.length → sgCells (es.set i z) = (((((sgCells es).set (i * 5) (.string z.1)).set (i * 5 + 1) (.int .i64 z.2.1)).set (i * 5 + 2) (.string z.2.2.1)).set (i * 5 + 3) (.int .i64 z.2.2.2.1)).set (i * 5 + 4) (.int .i64 z.2.2.2.2)
  | e :: es, 0, z, _ => by rw [List.set_cons_zero, sgCells_cons, sgCells_cons]; rfl
  | e :: es, i + 1, z, h => by
    have ih := sgCells_set es i z (by simpa using h)
    have e0 : (i + 1) * 5 = i * 5 + 1 + 1 + 1 + 1 + 1 := by omega
    have e1 : (i + 1) * 5 + 1 = i * 5 + 1 + 1 + 1 + 1 + 1 + 1 := by omega
    have e2 : (i + 1) * 5 + 2 = i * 5 + 2 + 1 + 1 + 1 + 1 + 1 := by omega
    have e3 : (i + 1) * 5 + 3 = i * 5 + 3 + 1 + 1 + 1 + 1 + 1 := by omega
    have e4 : (i + 1) * 5 + 4 = i * 5 + 4 + 1 + 1 + 1 + 1 + 1 := by omega
    rw [List.set_cons_succ, sgCells_cons, sgCells_cons, ih, e4, e3, e2, e1, e0]
    simp only [List.set_cons_succ]
theorem SgnsAt.of_cells {w : World} {A : Option Addr} {es : List Sgn} (h : CellsAt w A (sgCells es)) : SgnsAt w A es := fun i hi => by
  have hat : ∀ j, j < 5 → ∃ u, (sgCells es)[i * 5 + j]? = some u := fun j hj => ⟨_, List.getElem?_eq_getElem (by rw [sgCells_len]; omega)⟩
  obtain ⟨u0, h0⟩ := hat 0 (by decide)
  obtain ⟨b, off, e, hb, _⟩ := h _ _ h0
  refine ⟨b, off, e, hb, fun j hj => ?_⟩
  obtain ⟨u, hu⟩ := hat j hj
  obtain ⟨b', off', e', _, c⟩ := h _ _ hu
  rw [e] at e'
  injection e' with e'; injection e' with q1 q2; subst q1; subst q2
  rw [Nat.add_assoc, c, ← sgCells_at es i j hi hj, hu]
/-- A signed image set in the call's own list. -/
theorem OwnC.set5 {w : World} {base : Nat} {g c : Nat} {ss : List Sgn} (h : OwnC w base 34 5 (some ⟨g, 0, none⟩) c ss.length (sgCells ss)) (i : Nat) (hi : i < ss.length) (z : Sgn) :
    OwnC (((((w.setCell ⟨g, i * 5, none⟩ (.string z.1)).setCell ⟨g, i * 5 + 1, none⟩ (.int .i64 z.2.1)).setCell ⟨g, i * 5 + 2, none⟩ (.string z.2.2.1)).setCell ⟨g, i * 5 + 3, none⟩ (.int .i64 z.2.2.2.1)).setCell ⟨g, i * 5 + 4, none⟩ (.int .i64 z.2.2.2.2)) base 34 5 (some ⟨g, 0, none⟩) c (ss.set i z).length (sgCells (ss.set i z)) := by
  rw [sgCells_set ss i z hi, List.length_set]
  have h0 := (World.ownsRow.stored h (i * 5) (.string z.1)).1
  have h1 := (World.ownsRow.stored h0 (i * 5 + 1) (.int .i64 z.2.1)).1
  have h2 := (World.ownsRow.stored h1 (i * 5 + 2) (.string z.2.2.1)).1
  have h3 := (World.ownsRow.stored h2 (i * 5 + 3) (.int .i64 z.2.2.2.1)).1
  exact (World.ownsRow.stored h3 (i * 5 + 4) (.int .i64 z.2.2.2.2)).1

/-- Cells of rules whose lists lie outside the list's own block. -/
def RCN (w : World) (A : Option Addr) (rs : List (Int × List Int)) (cs : List Value) : Prop :=
  cs.length = rs.length * 2 ∧ ∀ i, i < rs.length → ∃ GA gc, cs[i * 2]? = some (.int .i64 (rs.getD i (0, [])).1) ∧ cs[i * 2 + 1]? = some (.slice GA (rs.getD i (0, [])).2.length gc) ∧ IntsAt w GA (rs.getD i (0, [])).2 ∧ ∀ a, GA = some a → a.block < w.heap.size ∧ ¬ At A a.block
theorem RCN.cells {w : World} {A : Option Addr} {rs : List (Int × List Int)} {cs : List Value} (h : RCN w A rs cs) : RCells w rs cs :=
  ⟨h.1, fun i hi => by obtain ⟨GA, gc, h1, h2, h3, _⟩ := h.2 i hi; exact ⟨GA, gc, h1, h2, h3⟩⟩
theorem RCN.nil_ (w : World) (A : Option Addr) : RCN w A [] [] := ⟨rfl, fun i hi => absurd hi (by simp)⟩
theorem RCN.below {w w' : World} {A : Option Addr} {rs : List (Int × List Int)} {cs : List Value} (h : RCN w A rs cs) (hb : Below w.heap.size w w') : RCN w' A rs cs :=
  ⟨h.1, fun i hi => by obtain ⟨GA, gc, h1, h2, h3, h4⟩ := h.2 i hi; exact ⟨GA, gc, h1, h2, h3.below hb, fun a ha => ⟨Nat.lt_of_lt_of_le (h4 a ha).1 hb.size, (h4 a ha).2⟩⟩⟩
/-- One more, behind an append. -/
theorem RCN.snoc {w w' : World} {A A' : Option Addr} {rs : List (Int × List Int)} {cs : List Value} (h : RCN w A rs cs) (k : But (At A) w w') (hA : ∀ j, At A' j → At A j ∨ j = w.heap.size) {x : Int} {g : List Int} {ga : Addr} {gc : Nat} (hI : IntsAt w (some ga) g) (hg : ga.block < w.heap.size) (hgA : ¬ At A ga.block) : RCN w' A' (rs ++ [(x, g)]) (cs ++ [.int .i64 x, .slice (some ga) g.length gc]) := by
  have mv : ∀ (GA : Option Addr) (l : List Int), IntsAt w GA l → (∀ a, GA = some a → a.block < w.heap.size ∧ ¬ At A a.block) → IntsAt w' GA l ∧ ∀ a, GA = some a → a.block < w'.heap.size ∧ ¬ At A' a.block := fun GA l h1 h2 =>
    ⟨h1.but k (fun a ha => (h2 a ha).2), fun a ha => ⟨Nat.lt_of_lt_of_le (h2 a ha).1 k.size, fun hx => by
      rcases hA _ hx with h3 | h3
      · exact (h2 a ha).2 h3
      · have := (h2 a ha).1; omega⟩⟩
  refine ⟨by simp [h.1]; omega, fun i hi => ?_⟩
  rw [List.length_append, List.length_singleton] at hi
  by_cases hlt : i < rs.length
  · obtain ⟨GA, gc', h1, h2, h3, h4⟩ := h.2 i hlt
    have e : (rs ++ [(x, g)]).getD i (0, []) = rs.getD i (0, []) := by
      rw [List.getD_eq_getElem?_getD, List.getD_eq_getElem?_getD, List.getElem?_append_left hlt]
    rw [e]
    obtain ⟨m1, m2⟩ := mv GA _ h3 h4
    exact ⟨GA, gc', by rw [List.getElem?_append_left (by rw [h.1]; omega)]; exact h1, by rw [List.getElem?_append_left (by rw [h.1]; omega)]; exact h2, m1, m2⟩
  · obtain rfl : i = rs.length := by omega
    have e : (rs ++ [(x, g)]).getD rs.length (0, []) = (x, g) := by
      rw [List.getD_eq_getElem?_getD, List.getElem?_append_right (Nat.le_refl _), Nat.sub_self]; rfl
    rw [e]
    obtain ⟨m1, m2⟩ := mv (some ga) g hI (fun a ha => by injection ha with ha; subst ha; exact ⟨hg, hgA⟩)
    refine ⟨some ga, gc, ?_, ?_, m1, m2⟩
    · rw [List.getElem?_append_right (by rw [h.1]; omega), h.1, Nat.sub_self]; rfl
    · rw [List.getElem?_append_right (by rw [h.1]; omega), h.1, show rs.length * 2 + 1 - rs.length * 2 = 1 from by omega]; rfl

set_option maxRecDepth 100000
set_option linter.unusedVariables false
set_option linter.unusedSimpArgs false

def ruleB (b : List Int) (k : Nat) : List (Int × List Int) := (List.range k).map fun (i : Nat) => ((i : Int), [b.getD i 0])
theorem ruleB_len (b : List Int) (k : Nat) : (ruleB b k).length = k := by simp [ruleB]
theorem ruleB_step (b : List Int) (k : Nat) : ruleB b (k + 1) = ruleB b k ++ [((k : Int), [b.getD k 0])] := by unfold ruleB; rw [List.range_succ, List.map_append]; rfl
theorem ruleB_small (b : List Int) (k : Nat) : ∀ r ∈ ruleB b k, r.2.length = 1 := fun r hr => by
  unfold ruleB at hr
  obtain ⟨i, _, rfl⟩ := List.mem_map.1 hr
  rfl
theorem all_get {b : List Int} (hb : b.all okM = true) (h8 : b.length = 8) (i : Nat) : okM (b.getD i 0) = true := by
  by_cases hi : i < 8
  · rw [List.getD_eq_getElem?_getD, List.getElem?_eq_getElem (by omega)]
    exact List.all_eq_true.1 hb _ (List.getElem_mem _)
  · rw [List.getD_eq_getElem?_getD, List.getElem?_eq_none (by omega)]; decide
theorem ruleGo_B {b : List Int} (hb : b.all okM = true) (h8 : b.length = 8) : ∀ m j, j + m ≤ 8 → ruleGo (ruleB b j) ((List.range m).map fun (i : Nat) => (((j + i : Nat) : Int), [b.getD (j + i) 0])) = 0
  | 0, j, _ => rfl
  | m + 1, j, h => by
    have ih := ruleGo_B hb h8 m (j + 1) (by omega)
    rw [List.range_succ_eq_map, List.map_cons, List.map_map]
    have e : ((fun (i : Nat) => (((j + i : Nat) : Int), [b.getD (j + i) 0])) ∘ Nat.succ) = fun (i : Nat) => (((j + 1 + i : Nat) : Int), [b.getD (j + 1 + i) 0]) := by
      funext i
      show (((j + (i + 1) : Nat) : Int), [b.getD (j + (i + 1)) 0]) = _
      rw [show j + (i + 1) = j + 1 + i from by omega]
    rw [e]
    unfold ruleGo
    have h1 : okReg ((j + 0 : Nat) : Int) = true := decide_eq_true (by omega)
    have h2 : ([b.getD (j + 0) 0] : List Int).all okM = true := by simp only [List.all_cons, List.all_nil, Bool.and_true]; exact all_get hb h8 _
    have h3 : (ruleB b j).any (fun s => s.1 == ((j + 0 : Nat) : Int)) = false := by
      rw [List.any_eq_false]
      intro s hs
      unfold ruleB at hs
      obtain ⟨i, hi, rfl⟩ := List.mem_map.1 hs
      have := List.mem_range.1 hi
      simp; omega
    simp only [h1, h2, h3, if_true, List.length_singleton]
    rw [if_neg (by decide), if_neg (by decide)]
    rw [ruleB_step] at ih
    exact ih
theorem ruleB_ok {b : List Int} (hb : b.all okM = true) (h8 : b.length = 8) {k : Nat} (hk : k ≤ 8) : rulesE (ruleB b k) = 0 := by
  unfold rulesE
  rw [ruleB_len, if_neg (by omega)]
  have h := ruleGo_B hb h8 k 0 (by omega)
  have e : ((List.range k).map fun (i : Nat) => (((0 + i : Nat) : Int), [b.getD (0 + i) 0])) = ruleB b k := by
    unfold ruleB
    congr 1
    funext i
    rw [Nat.zero_add]
  have e0 : ruleB b 0 = [] := rfl
  rw [e, e0] at h
  exact h
theorem fit_B (b c : List Int) (k : Nat) : fitM (ruleB b k) c = true ↔ ∀ i, i < k → c.getD i 0 = b.getD i 0 := by
  unfold fitM
  rw [Bool.not_eq_true', List.any_eq_false]
  constructor
  · intro h i hi
    have := h ((i : Int), [b.getD i 0]) (List.mem_map.2 ⟨i, List.mem_range.2 hi, rfl⟩)
    unfold fitBad at this
    simpa using this
  · intro h r hr
    unfold ruleB at hr
    obtain ⟨i, hi, rfl⟩ := List.mem_map.1 hr
    have := h i (List.mem_range.1 hi)
    unfold fitBad
    simpa using this
theorem bits255 : ∀ i, i < 8 → bitM 255 i = true := by decide
theorem asked_B (b : List Int) {k : Nat} (hk : k ≤ 8) : askedB 255 (ruleB b k) = true := by
  unfold askedB
  rw [List.all_eq_true]
  intro r hr
  unfold ruleB at hr
  obtain ⟨i, hi, rfl⟩ := List.mem_map.1 hr
  have := List.mem_range.1 hi
  exact bits255 _ (by simp; omega)
theorem bankK_len (ss : List Sgn) (k : Nat) : (bankK ss k).length = 8 := rfl
theorem bankK_at (ss : List Sgn) (k i : Nat) (h : i < 8) : (bankK ss k).getD i 0 = cellK ss k i := by
  match i, h with
  | 0, _ | 1, _ | 2, _ | 3, _ | 4, _ | 5, _ | 6, _ | 7, _ => rfl
/-- Who fits the rules of just a bank is that bank. -/
theorem fit_bank (ss tt : List Sgn) {k : Nat} (hk : k ≤ 8) : fitM (ruleB (bankK ss k) k) (bankK tt k) = true ↔ bankK tt k = bankK ss k := by
  rw [fit_B]
  constructor
  · intro h
    have hc : ∀ i, i < 8 → cellK tt k i = cellK ss k i := fun i hi => by
      by_cases hik : i < k
      · have := h i hik
        rwa [bankK_at _ _ _ hi, bankK_at _ _ _ hi] at this
      · unfold cellK; rw [if_neg hik, if_neg hik]
    unfold bankK
    rw [hc 0 (by decide), hc 1 (by decide), hc 2 (by decide), hc 3 (by decide), hc 4 (by decide), hc 5 (by decide), hc 6 (by decide), hc 7 (by decide)]
  · intro h i _
    rw [h]
theorem fit_self (ss : List Sgn) {k : Nat} (hk : k ≤ 8) : fitM (ruleB (bankK ss k) k) (bankK ss k) = true := (fit_bank ss ss hk).2 rfl
/-- All right: all are measured and started. -/
theorem BootIs.all {q : Int} {ss : List Sgn} {m n : Nat} (h : BootIs q ss m n) (ha : ∀ i, i < ss.length → sgC q (ss.getD i noSgn) = 0) : n = ss.length ∧ m = ss.length := by
  obtain ⟨⟨h1, h2⟩, h3⟩ := h
  rcases h3 with ⟨h3, h4⟩ | ⟨h3, h4, h5⟩
  · omega
  · exact absurd (ha n h3) h5

end Go.Proofs.YtdedllfgeekogaaDoor
