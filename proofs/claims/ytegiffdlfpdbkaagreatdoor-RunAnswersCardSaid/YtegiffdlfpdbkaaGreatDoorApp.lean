/- Lists of integers that a call itself makes: appended to, and read. Lists of things of several cells that a call itself makes: appended to, and read. Of no program. -/
import Derived.Test.YtegiffdlfpdbkaaGreatDoorBase
import Derived.Maps.AppendAt
import Derived.Deep.AppendLies
import Derived.OwnWalk
namespace Go.Proofs.YtegiffdlfpdbkaaGreatDoor
open Go.RowKit
set_option maxRecDepth 100000

/-- The call's own list of integers, in a block from base on. -/
def OwnI (w : World) (base : Nat) (A : Option Addr) (c : Nat) (xs : List Int) : Prop :=
  w.ownsRow base 3 1 (.slice A xs.length c) xs.length (xs.map (Value.int .i64))

theorem OwnI.start (w : World) (base : Nat) : OwnI w base none 0 [] := ⟨rfl, Or.inl ⟨rfl, rfl⟩⟩

theorem OwnI.ints {w : World} {base : Nat} {A : Option Addr} {c : Nat} {xs : List Int} (h : OwnI w base A c xs) : IntsAt w A xs := fun i hi => by
  obtain ⟨g, cap, hv, _, hlt⟩ := World.ownsRow.form h (by omega)
  injection hv with hv _ _
  subst hv
  refine ⟨g, 0, rfl, hlt, ?_⟩
  have hc := World.ownsRow.cells h (g := g) rfl i (.int .i64 (xs.getD i 0)) (by
    rw [List.getElem?_map, List.getD_eq_getElem?_getD, List.getElem?_eq_getElem hi]; rfl)
  have e : (⟨g, 0, none⟩ : Addr).add i = ⟨g, 0 + i, none⟩ := by unfold Addr.add; split <;> simp_all
  rw [e] at hc
  exact hc

theorem OwnI.below {w w' : World} {base : Nat} {A : Option Addr} {c : Nat} {xs : List Int} (h : OwnI w base A c xs) (hb : Below w.heap.size w w') : OwnI w' base A c xs := by
  refine ⟨h.1, ?_⟩
  rcases h.2 with h2 | ⟨g, cap, cur, hv, hg, hh, r⟩
  · exact Or.inl h2
  · refine Or.inr ⟨g, cap, cur, hv, hg, ?_, r⟩
    have hlt : g < w.heap.size := by
      rcases Nat.lt_or_ge g w.heap.size with hlt | hge
      · exact hlt
      · rw [Array.getElem?_eq_none hge] at hh; cases hh
    rw [hb.block g hlt]; exact hh

theorem below_of_grown {w w' : World} {base : Nat} {v : Value} (hg : w.grownBy w' v.ownBlock) (hbase : base ≤ w.heap.size) (hv : ∀ k, v.ownBlock = some k → base ≤ k) : Below base w w' :=
  ⟨hg.os, hg.tape, hg.output, hg.size, fun k hk => hg.block k (by omega) (fun e => by have := hv k e.symm; omega)⟩

theorem own_from {w : World} {base : Nat} {e : TypeId} {size : Nat} {v : Value} {n : Nat} {xs : List Value} (h : w.ownsRow base e size v n xs) : ∀ k, v.ownBlock = some k → base ≤ k := fun k hk => by
  rcases h.2 with ⟨rfl, _⟩ | ⟨g, cap, cur, rfl, hg, _⟩
  · cases hk
  · simp [Value.ownBlock] at hk; omega

theorem run_app_ints (w : World) (base : Nat) (A : Option Addr) (c : Nat) (xs : List Int) (hown : OwnI w base A c xs) (B : Option Addr) (d : Nat) (ys : List Int) (hB : IntsAt w B ys)
    (hlen : (xs.length + ys.length) * 8 ≤ 140737488355328) (hbase : base ≤ w.heap.size) (ty : TypeId) :
    ∃ A' c' w', (Builtin.append_ #[55, 55] ty #[.slice A xs.length c, .slice B ys.length d]).run Tryz.prog w = .ok (.slice A' (xs ++ ys).length c') w' ∧ OwnI w' base A' c' (xs ++ ys) ∧ Below base w w' := by
  obtain ⟨i, hi, hz0, hz1, hz2⟩ := info_parts (P := Tryz.prog) (e := 3) (z := .int .i64 0) (size := 1) (bytes := 8) (by kernel_rfl)
  rcases B with _ | ad
  · have h0 : ys.length = 0 := by
      rcases Nat.eq_zero_or_pos ys.length with h0 | h0
      · exact h0
      · obtain ⟨_, _, e, _⟩ := hB 0 h0
        cases e
    obtain rfl : ys = [] := List.eq_nil_of_length_eq_zero h0
    refine ⟨A, c, w, ?_, by rw [List.append_nil]; exact hown, Below.refl _ _⟩
    rw [List.append_nil]
    rcases hown.2 with ⟨hv, hx⟩ | ⟨g, cap, cur, hv, _, _, hnc, _⟩
    · injection hv with h1 h2 h3
      subst h1; subst h3
      rw [hx]
      simp [Builtin.append_, run_underlying Tryz.underlying55, sizeOf, typeInfo, hi, Builtin.lenOf, Builtin.firstCells]
    · injection hv with h1 h2 h3
      subst h1; subst h3
      simp [Builtin.append_, run_underlying Tryz.underlying55, sizeOf, typeInfo, hi, Builtin.lenOf, Builtin.firstCells, hnc, storeCells]
  · have hcells : ∀ j u, (ys.map (Value.int .i64))[j]? = some u → w.cell? (ad.add j) = some u := fun j u hu => by
      rw [List.getElem?_map, Option.map_eq_some_iff] at hu
      obtain ⟨y, hy, rfl⟩ := hu
      have hj : j < ys.length := (List.getElem?_eq_some_iff.1 hy).1
      obtain ⟨b', off', e, _, hc⟩ := hB j hj
      injection e with e; subst e
      have e : (⟨b', off', none⟩ : Addr).add j = ⟨b', off' + j, none⟩ := by unfold Addr.add; split <;> simp_all
      rw [e, hc, List.getD_eq_getElem?_getD, hy]; rfl
    obtain ⟨v', w', hrun, h2, h3, h4, h5⟩ := run_append_own_at (P := Tryz.prog) w base 55 ty 3 i (.int .i64 0) 1 8 Tryz.underlying55 hi hz0 hz1 hz2 rfl (by decide) _ _ _ hown ad ys.length d (ys.map (Value.int .i64)) (by simp) hcells
      (fun u hu => by obtain ⟨y, _, rfl⟩ := List.mem_map.1 hu; rfl) (by unfold maxLen; omega) hlen hbase
    obtain ⟨A', c', hv⟩ : ∃ A' c', v' = .slice A' (xs.length + ys.length) c' := by
      rcases h2.2 with ⟨hv, hx⟩ | ⟨g, cap, cur, hv, _⟩
      · exact ⟨none, 0, by rw [hv, hx]⟩
      · exact ⟨_, _, hv⟩
    subst hv
    refine ⟨A', c', w', by rw [hrun, List.length_append], ?_, below_of_grown h3 hbase (own_from hown)⟩
    unfold OwnI
    rw [List.length_append, List.map_append]
    exact h2

theorem app_ints {ops : Array Oper} {rest : List Oper} {o : Oper} {a : Act} {Q : Exit → Act → World → Prop} {w : World} (hgd : o.guard = none) (s x : Operand)
    (ho : o.op = .call { callee := .builtin .append, args := #[s, x], argTypes := #[55, 55] })
    (base : Nat) (A : Option Addr) (c : Nat) (xs : List Int) (hs : a.eval s = .slice A xs.length c) (hown : OwnI w base A c xs)
    (B : Option Addr) (d : Nat) (ys : List Int) (hx : a.eval x = .slice B ys.length d) (hB : IntsAt w B ys)
    (hlen : (xs.length + ys.length) * 8 ≤ 140737488355328) (hbase : base ≤ w.heap.size)
    (h : ∀ A' c' zs w', Hid (zs = xs ++ ys) → OwnI w' base A' c' zs → Below base w w' → wpList Tryz.prog ops Q rest (a.put o.dst (.slice A' zs.length c')) w') : wpList Tryz.prog ops Q (o :: rest) a w := by
  obtain ⟨A', c', w', hrun, h2, h3⟩ := run_app_ints w base A c xs hown B d ys hB hlen hbase o.type
  refine wpList_plain hgd fun K hK => ?_
  unfold Oper.wp execOp
  simp only [ho, resolve, invoke, builtin, Sem.run_bind, Sem.run_pure, Result.andThen_ok, List.map_toArray, List.map_cons, List.map_nil, hs, hx, hrun]
  exact hK _ _ (h A' c' (xs ++ ys) w' rfl h2 h3)

end Go.Proofs.YtegiffdlfpdbkaaGreatDoor

namespace Go.Proofs.YtegiffdlfpdbkaaGreatDoor
open Go.RowKit
set_option maxRecDepth 100000

/-- The slice that begins at A reads, in the world w, as the cells cs. -/
def CellsAt (w : World) (A : Option Addr) (cs : List Value) : Prop :=
  ∀ j u, cs[j]? = some u → ∃ b off, A = some ⟨b, off, none⟩ ∧ b < w.heap.size ∧ w.cell? ⟨b, off + j, none⟩ = some u
theorem CellsAt.below {w w' : World} {A : Option Addr} {cs : List Value} (h : CellsAt w A cs) (hb : Below w.heap.size w w') : CellsAt w' A cs := fun j u hu => by
  obtain ⟨b, off, e, hlt, hc⟩ := h j u hu
  exact ⟨b, off, e, Nat.lt_of_lt_of_le hlt hb.size, (hb.cell (p := ⟨b, off + j, none⟩) hlt).trans hc⟩
theorem CellsAt.new_ (w : World) (t : TypeId) (cs : List Value) (fr : Nat × Nat) : CellsAt (w.alloc (.cells cs.toArray t fr)) (some ⟨w.heap.size, 0, none⟩) cs := fun j u hu => by
  refine ⟨w.heap.size, 0, rfl, by show _ < (w.heap.push _).size; rw [Array.size_push]; exact Nat.lt_succ_self _, ?_⟩
  rw [Nat.zero_add, World.cell?_alloc_mark, List.getElem?_toArray]; exact hu

/-- The call's own list of n things of 'size' cells each, in a block from base on. -/
def OwnC (w : World) (base : Nat) (e : TypeId) (size : Nat) (A : Option Addr) (c n : Nat) (cs : List Value) : Prop :=
  w.ownsRow base e size (.slice A n c) n cs
theorem OwnC.start (w : World) (base : Nat) (e : TypeId) (size : Nat) : OwnC w base e size none 0 0 [] := ⟨by simp, Or.inl ⟨rfl, rfl⟩⟩
theorem OwnC.len {w : World} {base : Nat} {e : TypeId} {size : Nat} {A : Option Addr} {c n : Nat} {cs : List Value} (h : OwnC w base e size A c n cs) : cs.length = n * size := h.1
theorem OwnC.cells {w : World} {base : Nat} {e : TypeId} {size : Nat} {A : Option Addr} {c n : Nat} {cs : List Value} (h : OwnC w base e size A c n cs) : CellsAt w A cs := fun j u hu => by
  have hj : j < cs.length := (List.getElem?_eq_some_iff.1 hu).1
  have hn : 0 < n := by
    rcases Nat.eq_zero_or_pos n with h0 | h0
    · have := h.1; rw [h0, Nat.zero_mul] at this; omega
    · exact h0
  obtain ⟨g, cap, hv, _, hlt⟩ := World.ownsRow.form h hn
  injection hv with hv _ _
  subst hv
  refine ⟨g, 0, rfl, hlt, ?_⟩
  have hc := World.ownsRow.cells h (g := g) rfl j u hu
  have e : (⟨g, 0, none⟩ : Addr).add j = ⟨g, 0 + j, none⟩ := by unfold Addr.add; split <;> simp_all
  rw [e] at hc
  exact hc
theorem OwnC.below {w w' : World} {base : Nat} {e : TypeId} {size : Nat} {A : Option Addr} {c n : Nat} {cs : List Value} (h : OwnC w base e size A c n cs) (hb : Below w.heap.size w w') : OwnC w' base e size A c n cs := by
  refine ⟨h.1, ?_⟩
  rcases h.2 with h2 | ⟨g, cap, cur, hv, hg, hh, r⟩
  · exact Or.inl h2
  · refine Or.inr ⟨g, cap, cur, hv, hg, ?_, r⟩
    have hlt : g < w.heap.size := by
      rcases Nat.lt_or_ge g w.heap.size with hlt | hge
      · exact hlt
      · rw [Array.getElem?_eq_none hge] at hh; cases hh
    rw [hb.block g hlt]; exact hh

theorem run_app_cells {P : Program} (w : World) (t e : TypeId) (ht : P.underlying t = some (.slice e)) {z : Value} {size bytes : Nat} (hinfo : (P.info? e).map (fun i => (i.zero, i.size, i.bytes)) = some (some z, size, bytes))
    (hzs : z.cells.size = size) (hsz : 0 < size)
    (base : Nat) (A : Option Addr) (c n : Nat) (xs : List Value) (hown : OwnC w base e size A c n xs) (B : Option Addr) (d m : Nat) (ys : List Value) (hB : CellsAt w B ys) (hm : ys.length = m * size) (h1 : ∀ u ∈ ys, u.oneCell' = true)
    (hmax : n + m ≤ 9223372036854775807) (hlen : (n + m) * bytes ≤ 140737488355328) (hbase : base ≤ w.heap.size) (ty : TypeId) :
    ∃ A' c' w', (Builtin.append_ #[t, t] ty #[.slice A n c, .slice B m d]).run P w = .ok (.slice A' (n + m) c') w' ∧ OwnC w' base e size A' c' (n + m) (xs ++ ys) ∧ Below base w w' := by
  obtain ⟨i, hi, hz0, hz1, hz2⟩ := info_parts hinfo
  rcases B with _ | ad
  · have h0 : m = 0 := by
      rcases Nat.eq_zero_or_pos ys.length with h0 | h0
      · rcases Nat.eq_zero_or_pos m with h2 | h2
        · exact h2
        · have : 0 < m * size := Nat.mul_pos h2 hsz
          omega
      · obtain ⟨_, _, e, _⟩ := hB 0 _ (List.getElem?_eq_getElem h0)
        cases e
    subst h0
    obtain rfl : ys = [] := List.eq_nil_of_length_eq_zero (by simpa using hm)
    refine ⟨A, c, w, ?_, by rw [List.append_nil]; exact hown, Below.refl _ _⟩
    rw [Nat.add_zero]
    rcases hown.2 with ⟨hv, hx⟩ | ⟨g, cap, cur, hv, _, _, hnc, _⟩
    · injection hv with h1 h2 h3
      subst h1; subst h3
      rw [hx]
      simp [Builtin.append_, run_underlying ht, sizeOf, typeInfo, hi, Builtin.lenOf, Builtin.firstCells]
    · injection hv with h1 h2 h3
      subst h1; subst h3
      simp [Builtin.append_, run_underlying ht, sizeOf, typeInfo, hi, Builtin.lenOf, Builtin.firstCells, hnc, storeCells]
  · have hcells : ∀ j u, ys[j]? = some u → w.cell? (ad.add j) = some u := fun j u hu => by
      obtain ⟨b', off', e, _, hc⟩ := hB j u hu
      injection e with e; subst e
      have e : (⟨b', off', none⟩ : Addr).add j = ⟨b', off' + j, none⟩ := by unfold Addr.add; split <;> simp_all
      rw [e, hc]
    obtain ⟨v', w', hrun, h2, h3, h4, h5⟩ := run_append_own_at (P := P) w base t ty e i z size bytes ht hi hz0 hz1 hz2 hzs hsz _ _ _ hown ad m d ys hm hcells h1 (by unfold maxLen; omega) hlen hbase
    obtain ⟨A', c', hv⟩ : ∃ A' c', v' = .slice A' (n + m) c' := by
      rcases h2.2 with ⟨hv, hx⟩ | ⟨g, cap, cur, hv, _⟩
      · exact ⟨none, 0, by rw [hv, hx]⟩
      · exact ⟨_, _, hv⟩
    subst hv
    exact ⟨A', c', w', hrun, h2, below_of_grown h3 hbase (own_from hown)⟩

theorem app_cells {P : Program} {ops : Array Oper} {rest : List Oper} {o : Oper} {a : Act} {Q : Exit → Act → World → Prop} {w : World} (hgd : o.guard = none) (s x : Operand) (t e : TypeId)
    (ho : o.op = .call { callee := .builtin .append, args := #[s, x], argTypes := #[t, t] })
    (ht : P.underlying t = some (.slice e)) {z : Value} {size bytes : Nat} (hinfo : (P.info? e).map (fun i => (i.zero, i.size, i.bytes)) = some (some z, size, bytes)) (hzs : z.cells.size = size) (hsz : 0 < size)
    (base : Nat) (A : Option Addr) (c n : Nat) (xs : List Value) (hs : a.eval s = .slice A n c) (hown : OwnC w base e size A c n xs)
    (B : Option Addr) (d m : Nat) (ys : List Value) (hx : a.eval x = .slice B m d) (hB : CellsAt w B ys) (hm : ys.length = m * size) (h1 : ∀ u ∈ ys, u.oneCell' = true)
    (hmax : n + m ≤ 9223372036854775807) (hlen : (n + m) * bytes ≤ 140737488355328) (hbase : base ≤ w.heap.size)
    (h : ∀ A' c' k w', Hid (k = n + m) → OwnC w' base e size A' c' k (xs ++ ys) → Below base w w' → wpList P ops Q rest (a.put o.dst (.slice A' k c')) w') : wpList P ops Q (o :: rest) a w := by
  obtain ⟨A', c', w', hrun, h2, h3⟩ := run_app_cells w t e ht hinfo hzs hsz base A c n xs hown B d m ys hB hm h1 hmax hlen hbase o.type
  refine wpList_plain hgd fun K hK => ?_
  unfold Oper.wp execOp
  simp only [ho, resolve, invoke, builtin, Sem.run_bind, Sem.run_pure, Result.andThen_ok, List.map_toArray, List.map_cons, List.map_nil, hs, hx, hrun]
  exact hK _ _ (h A' c' (n + m) w' rfl h2 h3)

end Go.Proofs.YtegiffdlfpdbkaaGreatDoor
