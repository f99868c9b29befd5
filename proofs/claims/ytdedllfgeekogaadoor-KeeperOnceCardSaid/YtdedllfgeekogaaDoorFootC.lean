/- The call's own list of things of some cells each: appended to, with its footprint. -/
import Derived.Test.YtdedllfgeekogaaDoorBase
import Derived.Test.YtdedllfgeekogaaDoorAppC
import Derived.Test.YtdedllfgeekogaaDoorFoot
namespace Go.Proofs.YtdedllfgeekogaaDoor
open Go.RowKit
set_option maxRecDepth 100000

theorem OwnC.at_ {w : World} {base : Nat} {e : TypeId} {size : Nat} {A : Option Addr} {c n : Nat} {cs : List Value} (h : OwnC w base e size A c n cs) : ∀ a, A = some a → base ≤ a.block ∧ a.block < w.heap.size := fun a ha => by
  subst ha
  rcases h.2 with ⟨h2, _⟩ | ⟨g, cap, cur, hv, hg, hh, _⟩
  · cases h2
  · injection hv with hv _ _
    injection hv with hv
    subst hv
    refine ⟨hg, ?_⟩
    rcases Nat.lt_or_ge g w.heap.size with hlt | hge
    · exact hlt
    · rw [Array.getElem?_eq_none hge] at hh; cases hh
theorem OwnC.zero_off {w : World} {base : Nat} {e : TypeId} {size : Nat} {A : Option Addr} {c n : Nat} {cs : List Value} (h : OwnC w base e size A c n cs) : ∀ a, A = some a → a = ⟨a.block, 0, none⟩ := fun a ha => by
  subst ha
  rcases h.2 with ⟨h2, _⟩ | ⟨g, cap, cur, hv, _⟩
  · cases h2
  · injection hv with hv _ _
    injection hv with hv
    subst hv; rfl
theorem OwnC.but {S : Nat → Prop} {w w' : World} {base : Nat} {e : TypeId} {size : Nat} {A : Option Addr} {c n : Nat} {cs : List Value} (h : OwnC w base e size A c n cs) (k : But S w w') (hn : ∀ a, A = some a → ¬ S a.block) : OwnC w' base e size A c n cs := by
  have hl := h.at_
  refine ⟨h.1, ?_⟩
  rcases h.2 with h2 | ⟨g, cap, cur, hv, hg, hh, r⟩
  · exact Or.inl h2
  · refine Or.inr ⟨g, cap, cur, hv, hg, ?_, r⟩
    injection hv with hv _ _
    exact (k.block g (hl _ hv).2 (hn _ hv)).trans hh
theorem OwnC.mono {w : World} {base base' : Nat} {e : TypeId} {size : Nat} {A : Option Addr} {c n : Nat} {cs : List Value} (h : OwnC w base e size A c n cs) (hb : base' ≤ base) : OwnC w base' e size A c n cs := by
  refine ⟨h.1, ?_⟩
  rcases h.2 with h2 | ⟨g, cap, cur, hv, hg, r⟩
  · exact Or.inl h2
  · exact Or.inr ⟨g, cap, cur, hv, Nat.le_trans hb hg, r⟩

/-- The block of a list, if it has one. -/
def At (A : Option Addr) (k : Nat) : Prop := ∃ a, A = some a ∧ a.block = k

theorem run_app_cells_but {P : Program} (w : World) (t e : TypeId) (ht : P.underlying t = some (.slice e)) {z : Value} {size bytes : Nat} (hinfo : (P.info? e).map (fun i => (i.zero, i.size, i.bytes)) = some (some z, size, bytes))
    (hzs : z.cells.size = size) (hsz : 0 < size)
    (base : Nat) (A : Option Addr) (c n : Nat) (xs : List Value) (hown : OwnC w base e size A c n xs) (ad : Addr) (d m : Nat) (ys : List Value) (hB : CellsAt w (some ad) ys) (hm : ys.length = m * size) (h1 : ∀ u ∈ ys, u.oneCell' = true)
    (hmax : n + m ≤ 9223372036854775807) (hlen : (n + m) * bytes ≤ 140737488355328) (hbase : base ≤ w.heap.size) (ty : TypeId) :
    ∃ A' c' w', (Builtin.append_ #[t, t] ty #[.slice A n c, .slice (some ad) m d]).run P w = .ok (.slice A' (n + m) c') w' ∧ OwnC w' base e size A' c' (n + m) (xs ++ ys) ∧ But (At A) w w' ∧ (∀ k, At A' k → At A k ∨ k = w.heap.size) := by
  obtain ⟨i, hi, hz0, hz1, hz2⟩ := info_parts hinfo
  have hcells : ∀ j u, ys[j]? = some u → w.cell? (ad.add j) = some u := fun j u hu => by
    obtain ⟨b', off', e, _, hc⟩ := hB j u hu
    injection e with e; subst e
    have e : (⟨b', off', none⟩ : Addr).add j = ⟨b', off' + j, none⟩ := by unfold Addr.add; split <;> simp_all
    rw [e, hc]
  obtain ⟨v', w', hrun, h2, h3, h4, h5⟩ := run_append_own_at (P := P) w base t ty e i z size bytes ht hi hz0 hz1 hz2 hzs hsz _ _ _ hown ad m d ys hm hcells h1 (by unfold maxLen; omega) hlen hbase
  obtain ⟨A', c', hv⟩ : ∃ A' c', v' = .slice A' (n + m) c' := by
    rcases h2.2 with ⟨hv, hx⟩ | ⟨g, cap, cur, hv, _⟩
    · exact ⟨none, 0, by rw [hv, hx]⟩
    · exact ⟨_, _, hv⟩
  subst hv
  refine ⟨A', c', w', hrun, h2, ⟨h3.os, h3.tape, h3.output, h3.size, fun k hk hn => h3.block k hk (fun e => by
    rcases A with _ | a
    · cases e
    · injection e with e
      exact hn ⟨a, rfl, e.symm⟩)⟩, fun k hk => ?_⟩
  obtain ⟨a', rfl, rfl⟩ := hk
  rcases h5 with h5 | h5
  · rcases A with _ | a0
    · cases h5
    · injection h5 with h5
      exact Or.inl ⟨a0, rfl, h5.symm⟩
  · injection h5 with h5
    exact Or.inr h5

theorem app_cells_but {P : Program} {ops : Array Oper} {rest : List Oper} {o : Oper} {a : Act} {Q : Exit → Act → World → Prop} {w : World} (hgd : o.guard = none) (s x : Operand) (t e : TypeId)
    (ho : o.op = .call { callee := .builtin .append, args := #[s, x], argTypes := #[t, t] })
    (ht : P.underlying t = some (.slice e)) {z : Value} {size bytes : Nat} (hinfo : (P.info? e).map (fun i => (i.zero, i.size, i.bytes)) = some (some z, size, bytes)) (hzs : z.cells.size = size) (hsz : 0 < size)
    (base : Nat) (A : Option Addr) (c n : Nat) (xs : List Value) (hs : a.eval s = .slice A n c) (hown : OwnC w base e size A c n xs)
    (ad : Addr) (d m : Nat) (ys : List Value) (hx : a.eval x = .slice (some ad) m d) (hB : CellsAt w (some ad) ys) (hm : ys.length = m * size) (h1 : ∀ u ∈ ys, u.oneCell' = true)
    (hmax : n + m ≤ 9223372036854775807) (hlen : (n + m) * bytes ≤ 140737488355328) (hbase : base ≤ w.heap.size)
    (h : ∀ A' c' k w', Hid (k = n + m) → OwnC w' base e size A' c' k (xs ++ ys) → But (At A) w w' → (∀ k, At A' k → At A k ∨ k = w.heap.size) → wpList P ops Q rest (a.put o.dst (.slice A' k c')) w') : wpList P ops Q (o :: rest) a w := by
  obtain ⟨A', c', w', hrun, h2, h3, h4⟩ := run_app_cells_but w t e ht hinfo hzs hsz base A c n xs hown ad d m ys hB hm h1 hmax hlen hbase o.type
  refine wpList_plain hgd fun K hK => ?_
  unfold Oper.wp execOp
  simp only [ho, resolve, invoke, builtin, Sem.run_bind, Sem.run_pure, Result.andThen_ok, List.map_toArray, List.map_cons, List.map_nil, hs, hx, hrun]
  exact hK _ _ (h A' c' (n + m) w' rfl h2 h3 h4)
theorem step_app_cells_but {P : Program} {ops : Array Oper} {o : Oper} {a : Act} {w : World} {K : Act → World → Prop} {Q : Exit → Act → World → Prop} {E : Prop}
    (hg : o.guard = none) (s x : Operand) (t e : TypeId) (hop : o.op = Op.call { callee := Callee.builtin Builtin.append, args := #[s, x], argTypes := #[t, t] })
    (ht : P.underlying t = some (.slice e)) {z : Value} {size bytes : Nat} (hinfo : (P.info? e).map (fun i => (i.zero, i.size, i.bytes)) = some (some z, size, bytes)) (hzs : z.cells.size = size) (hsz : 0 < size)
    (base : Nat) (A : Option Addr) (c n : Nat) (xs : List Value) (hs : a.eval s = .slice A n c) (hown : OwnC w base e size A c n xs)
    (ad : Addr) (d m : Nat) (ys : List Value) (hx : a.eval x = .slice (some ad) m d) (hB : CellsAt w (some ad) ys) (hm : ys.length = m * size) (h1 : ∀ u ∈ ys, u.oneCell' = true)
    (hmax : n + m ≤ 9223372036854775807) (hlen : (n + m) * bytes ≤ 140737488355328) (hbase : base ≤ w.heap.size)
    (h : ∀ A' c' k w', Hid (k = n + m) → OwnC w' base e size A' c' k (xs ++ ys) → But (At A) w w' → (∀ k, At A' k → At A k ∨ k = w.heap.size) → K (a.put o.dst (.slice A' k c')) w') :
    if Region.wanted o (yielded ops a.tmps) = true then Oper.wp P o a w K Q else E := by
  have hw : Region.wanted o (yielded ops a.tmps) = true := by simp [Region.wanted, hg]
  rw [if_pos hw]
  obtain ⟨A', c', w', hrun, h2, h3, h4⟩ := run_app_cells_but w t e ht hinfo hzs hsz base A c n xs hown ad d m ys hB hm h1 hmax hlen hbase o.type
  unfold Oper.wp
  simp only [execOp, hop, resolve, invoke, builtin, Sem.run_bind, Sem.run_pure, Result.andThen_ok, List.map_toArray, List.map_cons, List.map_nil, hs, hx, hrun]
  exact h _ _ _ _ rfl h2 h3 h4

end Go.Proofs.YtdedllfgeekogaaDoor
