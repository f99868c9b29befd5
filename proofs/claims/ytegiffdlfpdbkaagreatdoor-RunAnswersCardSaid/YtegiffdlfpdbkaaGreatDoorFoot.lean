/- What may have changed, block by block: two things of a call side by side. The call's own list of things of some cells each: appended to, with its footprint. -/
import Derived.Test.YtegiffdlfpdbkaaGreatDoorBase
import Derived.Test.YtegiffdlfpdbkaaGreatDoorApp
namespace Go.Proofs.YtegiffdlfpdbkaaGreatDoor
open Go.RowKit
set_option maxRecDepth 100000

/-- But for the blocks S what was there is as it was. -/
structure But (S : Nat → Prop) (w w' : World) : Prop where
  os : w'.os = w.os
  tape : w'.tape = w.tape
  output : w'.output = w.output
  size : w.heap.size ≤ w'.heap.size
  block : ∀ k, k < w.heap.size → ¬ S k → w'.heap[k]? = w.heap[k]?

theorem But.refl (S : Nat → Prop) (w : World) : But S w w := ⟨rfl, rfl, rfl, Nat.le_refl _, fun _ _ _ => rfl⟩
theorem But.trans {S S' : Nat → Prop} {a b c : World} (h : But S a b) (k : But S' b c) (hs : ∀ x, x < a.heap.size → S' x → S x) : But S a c :=
  ⟨k.os.trans h.os, k.tape.trans h.tape, k.output.trans h.output, Nat.le_trans h.size k.size,
   fun i hi hn => (k.block i (Nat.lt_of_lt_of_le hi h.size) (fun hx => hn (hs i hi hx))).trans (h.block i hi hn)⟩
theorem But.drew {S : Nat → Prop} {a w : World} (h : But S a w) : But S a w.drew := ⟨h.os, h.tape, h.output, h.size, h.block⟩
theorem But.drewN {S : Nat → Prop} {a w : World} (h : But S a w) (n : Nat) : But S a (w.drewN n) := ⟨h.os, h.tape, h.output, h.size, h.block⟩
theorem But.alloc {S : Nat → Prop} {a w : World} (h : But S a w) (o : Obj) : But S a (w.alloc o) :=
  ⟨h.os, h.tape, h.output, Nat.le_trans h.size (by simp), fun k hk hn => (Below.heap_alloc w o k (Nat.lt_of_lt_of_le hk h.size)).trans (h.block k hk hn)⟩
theorem But.setCell {S : Nat → Prop} {a w : World} (h : But S a w) {p : Addr} (hp : S p.block ∨ a.heap.size ≤ p.block) (u : Value) : But S a (w.setCell p u) :=
  ⟨h.os, h.tape, h.output, Nat.le_trans h.size (by simp [World.setCell]), fun k hk hn => (Below.heap_setCell w p u k (fun e => by
    subst e
    rcases hp with hp | hp
    · exact hn hp
    · omega)).trans (h.block k hk hn)⟩
theorem But.mono {S S' : Nat → Prop} {a w : World} (h : But S a w) (hs : ∀ k, k < a.heap.size → S k → S' k) : But S' a w :=
  ⟨h.os, h.tape, h.output, h.size, fun k hk hn => h.block k hk (fun hx => hn (hs k hk hx))⟩
theorem below_but {w w' : World} (h : Below w.heap.size w w') (S : Nat → Prop) : But S w w' := ⟨h.os, h.tape, h.output, h.size, fun k hk _ => h.block k hk⟩
theorem But.below {S : Nat → Prop} {w w' : World} {B : Nat} (h : But S w w') (hB : B ≤ w.heap.size) (hs : ∀ k, S k → B ≤ k) : Below B w w' :=
  ⟨h.os, h.tape, h.output, h.size, fun k hk => h.block k (by omega) (fun hx => by have := hs k hx; omega)⟩
theorem Box.but {S : Nat → Prop} {w w' : World} {b : Nat} {t : TypeId} {cs : Array Value} (h : Box w b t cs) (k : But S w w') (hn : ¬ S b) : Box w' b t cs := (k.block b h.lt hn).trans h

theorem own_lt {w : World} {A : Option Addr} {c : Nat} {xs : List Int} (h : OwnI w 0 A c xs) : ∀ a, A = some a → a.block < w.heap.size := fun a ha => by
  subst ha
  rcases h.2 with ⟨h2, _⟩ | ⟨g, cap, cur, hv, _, hh, _⟩
  · cases h2
  · injection hv with hv _ _
    injection hv with hv
    subst hv
    rcases Nat.lt_or_ge g w.heap.size with hlt | hge
    · exact hlt
    · rw [Array.getElem?_eq_none hge] at hh; cases hh
theorem OwnI.but {S : Nat → Prop} {w w' : World} {A : Option Addr} {c : Nat} {xs : List Int} (h : OwnI w 0 A c xs) (k : But S w w') (hn : ∀ a, A = some a → ¬ S a.block) : OwnI w' 0 A c xs := by
  have hl := own_lt h
  refine ⟨h.1, ?_⟩
  rcases h.2 with h2 | ⟨g, cap, cur, hv, hg, hh, r⟩
  · exact Or.inl h2
  · injection hv with h1 h2 h3
    have e := k.block g (hl _ h1) (hn _ h1)
    exact Or.inr ⟨g, cap, cur, by rw [h1, h2, h3], hg, by rw [e]; exact hh, r⟩
theorem OwnI.zero {w : World} {base : Nat} {A : Option Addr} {c : Nat} {xs : List Int} (h : OwnI w base A c xs) : OwnI w 0 A c xs := by
  refine ⟨h.1, ?_⟩
  rcases h.2 with h2 | ⟨g, cap, cur, hv, _, r⟩
  · exact Or.inl h2
  · exact Or.inr ⟨g, cap, cur, hv, Nat.zero_le _, r⟩

/-- Append to a list of the call's own that lies in block b. -/
theorem run_app_but (w : World) (A : Option Addr) (c : Nat) (xs : List Int) (hown : OwnI w 0 A c xs) (b : Nat) (hb : ∀ a, A = some a → a.block = b) (B : Option Addr) (d : Nat) (ys : List Int) (hB : IntsAt w B ys)
    (hlen : (xs.length + ys.length) * 8 ≤ 140737488355328) (ty : TypeId) :
    ∃ A' c' b' w', (Builtin.append_ #[55, 55] ty #[.slice A xs.length c, .slice B ys.length d]).run Tryz.prog w = .ok (.slice A' (xs ++ ys).length c') w' ∧ OwnI w' 0 A' c' (xs ++ ys) ∧
      (b' = b ∨ b' = w.heap.size) ∧ (∀ a, A' = some a → a.block = b' ∧ (b' = b → b < w.heap.size → A ≠ none)) ∧ But (fun k => A ≠ none ∧ k = b) w w' := by
  obtain ⟨i, hi, hz0, hz1, hz2⟩ := info_parts (P := Tryz.prog) (e := 3) (z := .int .i64 0) (size := 1) (bytes := 8) (by kernel_rfl)
  rcases B with _ | ad
  · have h0 : ys.length = 0 := by
      rcases Nat.eq_zero_or_pos ys.length with h0 | h0
      · exact h0
      · obtain ⟨_, _, e, _⟩ := hB 0 h0
        cases e
    obtain rfl : ys = [] := List.eq_nil_of_length_eq_zero h0
    refine ⟨A, c, b, w, ?_, by rw [List.append_nil]; exact hown, Or.inl rfl, fun a ha => ⟨hb a ha, fun _ _ => by rw [ha]; simp⟩, But.refl _ _⟩
    rw [List.append_nil]
    rcases hown.2 with ⟨hv, hx⟩ | ⟨g, cap, cur, hv, _, _, hnc, _⟩
    · injection hv with h1 h2 h3
      subst h1; subst h3
      rw [hx]
      simp [Builtin.append_, run_underlying Tryz.underlying55, sizeOf, typeInfo, hi, Builtin.lenOf, Builtin.firstCells]
    · injection hv with h1 h2 h3
      subst h1; subst h3
      simp [Builtin.append_, run_underlying Tryz.underlying55, sizeOf, typeInfo, hi, Builtin.lenOf, Builtin.firstCells, hnc, storeCells]
  · have hcells : ∀ j u, (ys.map (Value.int .i64))[j]? = some u → w.cell? (ad.add j) = some u := fun j u hu => by
      rw [List.getElem?_map, Option.map_eq_some_iff] at hu
      obtain ⟨y, hy, rfl⟩ := hu
      have hj : j < ys.length := (List.getElem?_eq_some_iff.1 hy).1
      obtain ⟨b', off', e, _, hc⟩ := hB j hj
      injection e with e; subst e
      have e : (⟨b', off', none⟩ : Addr).add j = ⟨b', off' + j, none⟩ := by unfold Addr.add; split <;> simp_all
      rw [e, hc, List.getD_eq_getElem?_getD, hy]; rfl
    obtain ⟨v', w', hrun, h2, h3, h4, h5⟩ := run_append_own_at (P := Tryz.prog) w 0 55 ty 3 i (.int .i64 0) 1 8 Tryz.underlying55 hi hz0 hz1 hz2 rfl (by decide) _ _ _ hown ad ys.length d (ys.map (Value.int .i64)) (by simp) hcells
      (fun u hu => by obtain ⟨y, _, rfl⟩ := List.mem_map.1 hu; rfl) (by unfold maxLen; omega) hlen (Nat.zero_le _)
    obtain ⟨A', c', hv⟩ : ∃ A' c', v' = .slice A' (xs.length + ys.length) c' := by
      rcases h2.2 with ⟨hv, hx⟩ | ⟨g, cap, cur, hv, _⟩
      · exact ⟨none, 0, by rw [hv, hx]⟩
      · exact ⟨_, _, hv⟩
    subst hv
    have hB : But (fun k => A ≠ none ∧ k = b) w w' := ⟨h3.os, h3.tape, h3.output, h3.size, fun k hk hn => h3.block k hk (fun e => by
      rcases A with _ | a
      · cases e
      · have := hb a rfl
        injection e with e
        exact hn ⟨by simp, e.trans this⟩)⟩
    have hO : OwnI w' 0 A' c' (xs ++ ys) := by
      unfold OwnI
      rw [List.length_append, List.map_append]
      exact h2
    rcases h5 with h5 | h5
    · refine ⟨A', c', b, w', by rw [hrun, List.length_append], hO, Or.inl rfl, fun a ha => ?_, hB⟩
      subst ha
      rcases A with _ | a0
      · cases h5
      · have := hb a0 rfl
        injection h5 with h5
        exact ⟨h5.trans this, fun _ _ => by simp⟩
    · refine ⟨A', c', w.heap.size, w', by rw [hrun, List.length_append], hO, Or.inr rfl, fun a ha => ?_, hB⟩
      subst ha
      injection h5 with h5
      exact ⟨h5, fun e hl => by omega⟩

theorem step_app_but {ops : Array Oper} {o : Oper} {a : Act} {w : World} {K : Act → World → Prop} {Q : Exit → Act → World → Prop} {E : Prop}
    (hg : o.guard = none) (s x : Operand) (hop : o.op = Op.call { callee := Callee.builtin Builtin.append, args := #[s, x], argTypes := #[55, 55] })
    (A : Option Addr) (c : Nat) (xs : List Int) (hs : a.eval s = .slice A xs.length c) (hown : OwnI w 0 A c xs) (b : Nat) (hb : ∀ a, A = some a → a.block = b)
    (B : Option Addr) (d : Nat) (ys : List Int) (hx : a.eval x = .slice B ys.length d) (hB : IntsAt w B ys)
    (hlen : (xs.length + ys.length) * 8 ≤ 140737488355328)
    (h : ∀ A' c' b' w', OwnI w' 0 A' c' (xs ++ ys) → (b' = b ∨ b' = w.heap.size) → (∀ a, A' = some a → a.block = b' ∧ (b' = b → b < w.heap.size → A ≠ none)) → But (fun k => A ≠ none ∧ k = b) w w' → K (a.put o.dst (.slice A' (xs ++ ys).length c')) w') :
    if Region.wanted o (yielded ops a.tmps) = true then Oper.wp Tryz.prog o a w K Q else E := by
  have hw : Region.wanted o (yielded ops a.tmps) = true := by simp [Region.wanted, hg]
  rw [if_pos hw]
  obtain ⟨A', c', b', w', hrun, h2, h3, h4, h5⟩ := run_app_but w A c xs hown b hb B d ys hB hlen o.type
  unfold Oper.wp
  simp only [execOp, hop, resolve, invoke, builtin, Sem.run_bind, Sem.run_pure, Result.andThen_ok, List.map_toArray, List.map_cons, List.map_nil, hs, hx, hrun]
  exact h _ _ _ _ h2 h3 h4 h5

theorem app_but {ops : Array Oper} {rest : List Oper} {o : Oper} {a : Act} {Q : Exit → Act → World → Prop} {w : World} (hgd : o.guard = none) (s x : Operand)
    (ho : o.op = .call { callee := .builtin .append, args := #[s, x], argTypes := #[55, 55] })
    (A : Option Addr) (c : Nat) (xs : List Int) (hs : a.eval s = .slice A xs.length c) (hown : OwnI w 0 A c xs) (b : Nat) (hb : ∀ a, A = some a → a.block = b)
    (B : Option Addr) (d : Nat) (ys : List Int) (hx : a.eval x = .slice B ys.length d) (hB : IntsAt w B ys)
    (hlen : (xs.length + ys.length) * 8 ≤ 140737488355328)
    (h : ∀ A' c' b' zs w', Hid (zs = xs ++ ys) → OwnI w' 0 A' c' zs → (b' = b ∨ b' = w.heap.size) → (∀ a, A' = some a → a.block = b' ∧ (b' = b → b < w.heap.size → A ≠ none)) → But (fun k => A ≠ none ∧ k = b) w w' → wpList Tryz.prog ops Q rest (a.put o.dst (.slice A' zs.length c')) w') : wpList Tryz.prog ops Q (o :: rest) a w := by
  obtain ⟨A', c', b', w', hrun, h2, h3, h4, h5⟩ := run_app_but w A c xs hown b hb B d ys hB hlen o.type
  refine wpList_plain hgd fun K hK => ?_
  unfold Oper.wp execOp
  simp only [ho, resolve, invoke, builtin, Sem.run_bind, Sem.run_pure, Result.andThen_ok, List.map_toArray, List.map_cons, List.map_nil, hs, hx, hrun]
  exact hK _ _ (h A' c' b' (xs ++ ys) w' rfl h2 h3 h4 h5)

/-! Sub-slices. -/
theorem IntsAt.take_ {w : World} {A : Option Addr} {xs : List Int} (h : IntsAt w A xs) (k : Nat) : IntsAt w A (xs.take k) := fun i hi => by
  rw [List.length_take] at hi
  obtain ⟨b, off, e, hl, hc⟩ := h i (by omega)
  refine ⟨b, off, e, hl, ?_⟩
  rw [hc, List.getD_eq_getElem?_getD, List.getD_eq_getElem?_getD, List.getElem?_take_of_lt (by omega)]
theorem IntsAt.drop_ {w : World} {b off : Nat} {xs : List Int} (h : IntsAt w (some ⟨b, off, none⟩) xs) (k : Nat) : IntsAt w (some ⟨b, off + k, none⟩) (xs.drop k) := fun i hi => by
  rw [List.length_drop] at hi
  obtain ⟨b', off', e, hl, hc⟩ := h (k + i) (by omega)
  injection e with e
  injection e with e1 e2
  subst e1; subst e2
  refine ⟨b, off + k, rfl, hl, ?_⟩
  rw [Nat.add_assoc, hc, List.getD_eq_getElem?_getD, List.getD_eq_getElem?_getD, List.getElem?_drop]
theorem IntsAt.but {S : Nat → Prop} {w w' : World} {A : Option Addr} {xs : List Int} (h : IntsAt w A xs) (k : But S w w') (hn : ∀ a, A = some a → ¬ S a.block) : IntsAt w' A xs := fun i hi => by
  obtain ⟨b, off, e, hl, hc⟩ := h i hi
  refine ⟨b, off, e, Nat.lt_of_lt_of_le hl k.size, ?_⟩
  rw [← hc]
  exact World.cell?_of_block (w := w) (k.block b hl (hn _ e))

end Go.Proofs.YtegiffdlfpdbkaaGreatDoor

namespace Go.Proofs.YtegiffdlfpdbkaaGreatDoor
open Go.RowKit
set_option maxRecDepth 100000

theorem OwnC.at_ {w : World} {base : Nat} {e : TypeId} {size : Nat} {A : Option Addr} {c n : Nat} {cs : List Value} (h : OwnC w base e size A c n cs) : ∀ a, A = some a → base ≤ a.block ∧ a.block < w.heap.size := fun a ha => by
  subst ha
  rcases h.2 with ⟨h2, _⟩ | ⟨g, cap, cur, hv, hg, hh, _⟩
  · cases h2
  · injection hv with hv _ _
    injection hv with hv
    subst hv
    refine ⟨hg, ?_⟩
    rcases Nat.lt_or_ge g w.heap.size with hlt | hge
    · exact hlt
    · rw [Array.getElem?_eq_none hge] at hh; cases hh
theorem OwnC.zero_off {w : World} {base : Nat} {e : TypeId} {size : Nat} {A : Option Addr} {c n : Nat} {cs : List Value} (h : OwnC w base e size A c n cs) : ∀ a, A = some a → a = ⟨a.block, 0, none⟩ := fun a ha => by
  subst ha
  rcases h.2 with ⟨h2, _⟩ | ⟨g, cap, cur, hv, _⟩
  · cases h2
  · injection hv with hv _ _
    injection hv with hv
    subst hv; rfl
theorem OwnC.but {S : Nat → Prop} {w w' : World} {base : Nat} {e : TypeId} {size : Nat} {A : Option Addr} {c n : Nat} {cs : List Value} (h : OwnC w base e size A c n cs) (k : But S w w') (hn : ∀ a, A = some a → ¬ S a.block) : OwnC w' base e size A c n cs := by
  have hl := h.at_
  refine ⟨h.1, ?_⟩
  rcases h.2 with h2 | ⟨g, cap, cur, hv, hg, hh, r⟩
  · exact Or.inl h2
  · refine Or.inr ⟨g, cap, cur, hv, hg, ?_, r⟩
    injection hv with hv _ _
    exact (k.block g (hl _ hv).2 (hn _ hv)).trans hh
theorem OwnC.mono {w : World} {base base' : Nat} {e : TypeId} {size : Nat} {A : Option Addr} {c n : Nat} {cs : List Value} (h : OwnC w base e size A c n cs) (hb : base' ≤ base) : OwnC w base' e size A c n cs := by
  refine ⟨h.1, ?_⟩
  rcases h.2 with h2 | ⟨g, cap, cur, hv, hg, r⟩
  · exact Or.inl h2
  · exact Or.inr ⟨g, cap, cur, hv, Nat.le_trans hb hg, r⟩

/-- The block of a list, if it has one. -/
def At (A : Option Addr) (k : Nat) : Prop := ∃ a, A = some a ∧ a.block = k

theorem run_app_cells_but {P : Program} (w : World) (t e : TypeId) (ht : P.underlying t = some (.slice e)) {z : Value} {size bytes : Nat} (hinfo : (P.info? e).map (fun i => (i.zero, i.size, i.bytes)) = some (some z, size, bytes))
    (hzs : z.cells.size = size) (hsz : 0 < size)
    (base : Nat) (A : Option Addr) (c n : Nat) (xs : List Value) (hown : OwnC w base e size A c n xs) (ad : Addr) (d m : Nat) (ys : List Value) (hB : CellsAt w (some ad) ys) (hm : ys.length = m * size) (h1 : ∀ u ∈ ys, u.oneCell' = true)
    (hmax : n + m ≤ 9223372036854775807) (hlen : (n + m) * bytes ≤ 140737488355328) (hbase : base ≤ w.heap.size) (ty : TypeId) :
    ∃ A' c' w', (Builtin.append_ #[t, t] ty #[.slice A n c, .slice (some ad) m d]).run P w = .ok (.slice A' (n + m) c') w' ∧ OwnC w' base e size A' c' (n + m) (xs ++ ys) ∧ But (At A) w w' ∧ (∀ k, At A' k → At A k ∨ k = w.heap.size) := by
  obtain ⟨i, hi, hz0, hz1, hz2⟩ := info_parts hinfo
  have hcells : ∀ j u, ys[j]? = some u → w.cell? (ad.add j) = some u := fun j u hu => by
    obtain ⟨b', off', e, _, hc⟩ := hB j u hu
    injection e with e; subst e
    have e : (⟨b', off', none⟩ : Addr).add j = ⟨b', off' + j, none⟩ := by unfold Addr.add; split <;> simp_all
    rw [e, hc]
  obtain ⟨v', w', hrun, h2, h3, h4, h5⟩ := run_append_own_at (P := P) w base t ty e i z size bytes ht hi hz0 hz1 hz2 hzs hsz _ _ _ hown ad m d ys hm hcells h1 (by unfold maxLen; omega) hlen hbase
  obtain ⟨A', c', hv⟩ : ∃ A' c', v' = .slice A' (n + m) c' := by
    rcases h2.2 with ⟨hv, hx⟩ | ⟨g, cap, cur, hv, _⟩
    · exact ⟨none, 0, by rw [hv, hx]⟩
    · exact ⟨_, _, hv⟩
  subst hv
  refine ⟨A', c', w', hrun, h2, ⟨h3.os, h3.tape, h3.output, h3.size, fun k hk hn => h3.block k hk (fun e => by
    rcases A with _ | a
    · cases e
    · injection e with e
      exact hn ⟨a, rfl, e.symm⟩)⟩, fun k hk => ?_⟩
  obtain ⟨a', rfl, rfl⟩ := hk
  rcases h5 with h5 | h5
  · rcases A with _ | a0
    · cases h5
    · injection h5 with h5
      exact Or.inl ⟨a0, rfl, h5.symm⟩
  · injection h5 with h5
    exact Or.inr h5

theorem app_cells_but {P : Program} {ops : Array Oper} {rest : List Oper} {o : Oper} {a : Act} {Q : Exit → Act → World → Prop} {w : World} (hgd : o.guard = none) (s x : Operand) (t e : TypeId)
    (ho : o.op = .call { callee := .builtin .append, args := #[s, x], argTypes := #[t, t] })
    (ht : P.underlying t = some (.slice e)) {z : Value} {size bytes : Nat} (hinfo : (P.info? e).map (fun i => (i.zero, i.size, i.bytes)) = some (some z, size, bytes)) (hzs : z.cells.size = size) (hsz : 0 < size)
    (base : Nat) (A : Option Addr) (c n : Nat) (xs : List Value) (hs : a.eval s = .slice A n c) (hown : OwnC w base e size A c n xs)
    (ad : Addr) (d m : Nat) (ys : List Value) (hx : a.eval x = .slice (some ad) m d) (hB : CellsAt w (some ad) ys) (hm : ys.length = m * size) (h1 : ∀ u ∈ ys, u.oneCell' = true)
    (hmax : n + m ≤ 9223372036854775807) (hlen : (n + m) * bytes ≤ 140737488355328) (hbase : base ≤ w.heap.size)
    (h : ∀ A' c' k w', Hid (k = n + m) → OwnC w' base e size A' c' k (xs ++ ys) → But (At A) w w' → (∀ k, At A' k → At A k ∨ k = w.heap.size) → wpList P ops Q rest (a.put o.dst (.slice A' k c')) w') : wpList P ops Q (o :: rest) a w := by
  obtain ⟨A', c', w', hrun, h2, h3, h4⟩ := run_app_cells_but w t e ht hinfo hzs hsz base A c n xs hown ad d m ys hB hm h1 hmax hlen hbase o.type
  refine wpList_plain hgd fun K hK => ?_
  unfold Oper.wp execOp
  simp only [ho, resolve, invoke, builtin, Sem.run_bind, Sem.run_pure, Result.andThen_ok, List.map_toArray, List.map_cons, List.map_nil, hs, hx, hrun]
  exact hK _ _ (h A' c' (n + m) w' rfl h2 h3 h4)
theorem step_app_cells_but {P : Program} {ops : Array Oper} {o : Oper} {a : Act} {w : World} {K : Act → World → Prop} {Q : Exit → Act → World → Prop} {E : Prop}
    (hg : o.guard = none) (s x : Operand) (t e : TypeId) (hop : o.op = Op.call { callee := Callee.builtin Builtin.append, args := #[s, x], argTypes := #[t, t] })
    (ht : P.underlying t = some (.slice e)) {z : Value} {size bytes : Nat} (hinfo : (P.info? e).map (fun i => (i.zero, i.size, i.bytes)) = some (some z, size, bytes)) (hzs : z.cells.size = size) (hsz : 0 < size)
    (base : Nat) (A : Option Addr) (c n : Nat) (xs : List Value) (hs : a.eval s = .slice A n c) (hown : OwnC w base e size A c n xs)
    (ad : Addr) (d m : Nat) (ys : List Value) (hx : a.eval x = .slice (some ad) m d) (hB : CellsAt w (some ad) ys) (hm : ys.length = m * size) (h1 : ∀ u ∈ ys, u.oneCell' = true)
    (hmax : n + m ≤ 9223372036854775807) (hlen : (n + m) * bytes ≤ 140737488355328) (hbase : base ≤ w.heap.size)
    (h : ∀ A' c' k w', Hid (k = n + m) → OwnC w' base e size A' c' k (xs ++ ys) → But (At A) w w' → (∀ k, At A' k → At A k ∨ k = w.heap.size) → K (a.put o.dst (.slice A' k c')) w') :
    if Region.wanted o (yielded ops a.tmps) = true then Oper.wp P o a w K Q else E := by
  have hw : Region.wanted o (yielded ops a.tmps) = true := by simp [Region.wanted, hg]
  rw [if_pos hw]
  obtain ⟨A', c', w', hrun, h2, h3, h4⟩ := run_app_cells_but w t e ht hinfo hzs hsz base A c n xs hown ad d m ys hB hm h1 hmax hlen hbase o.type
  unfold Oper.wp
  simp only [execOp, hop, resolve, invoke, builtin, Sem.run_bind, Sem.run_pure, Result.andThen_ok, List.map_toArray, List.map_cons, List.map_nil, hs, hx, hrun]
  exact h _ _ _ _ rfl h2 h3 h4

end Go.Proofs.YtegiffdlfpdbkaaGreatDoor
