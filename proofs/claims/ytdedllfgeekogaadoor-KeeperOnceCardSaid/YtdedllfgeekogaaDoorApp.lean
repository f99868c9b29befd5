/- Lists of integers that a call itself makes: appended to, and read. -/
import Derived.Test.YtdedllfgeekogaaDoorBase
import Derived.Maps.AppendAt
import Derived.Deep.AppendLies
import Derived.OwnWalk
namespace Go.Proofs.YtdedllfgeekogaaDoor
open Go.RowKit
set_option maxRecDepth 100000

/-- The call's own list of integers, in a block from base on. -/
def OwnI (w : World) (base : Nat) (A : Option Addr) (c : Nat) (xs : List Int) : Prop :=
  w.ownsRow base 3 1 (.slice A xs.length c) xs.length (xs.map (Value.int .i64))

theorem OwnI.start (w : World) (base : Nat) : OwnI w base none 0 [] := ⟨rfl, Or.inl ⟨rfl, rfl⟩⟩

theorem OwnI.ints {w : World} {base : Nat} {A : Option Addr} {c : Nat} {xs : List Int} (h : OwnI w base A c xs) : IntsAt w A xs := fun i hi => by
  obtain ⟨g, cap, hv, _, hlt⟩ := World.ownsRow.form h (by omega)
  injection hv with hv _ _
  subst hv
  refine ⟨g, 0, rfl, hlt, ?_⟩
  have hc := World.ownsRow.cells h (g := g) rfl i (.int .i64 (xs.getD i 0)) (by
    rw [List.getElem?_map, List.getD_eq_getElem?_getD, List.getElem?_eq_getElem hi]; rfl)
  have e : (⟨g, 0, none⟩ : Addr).add i = ⟨g, 0 + i, none⟩ := by unfold Addr.add; split <;> simp_all
  rw [e] at hc
  exact hc

theorem OwnI.below {w w' : World} {base : Nat} {A : Option Addr} {c : Nat} {xs : List Int} (h : OwnI w base A c xs) (hb : Below w.heap.size w w') : OwnI w' base A c xs := by
  refine ⟨h.1, ?_⟩
  rcases h.2 with h2 | ⟨g, cap, cur, hv, hg, hh, r⟩
  · exact Or.inl h2
  · refine Or.inr ⟨g, cap, cur, hv, hg, ?_, r⟩
    have hlt : g < w.heap.size := by
      rcases Nat.lt_or_ge g w.heap.size with hlt | hge
      · exact hlt
      · rw [Array.getElem?_eq_none hge] at hh; cases hh
    rw [hb.block g hlt]; exact hh

theorem below_of_grown {w w' : World} {base : Nat} {v : Value} (hg : w.grownBy w' v.ownBlock) (hbase : base ≤ w.heap.size) (hv : ∀ k, v.ownBlock = some k → base ≤ k) : Below base w w' :=
  ⟨hg.os, hg.tape, hg.output, hg.size, fun k hk => hg.block k (by omega) (fun e => by have := hv k e.symm; omega)⟩

theorem own_from {w : World} {base : Nat} {e : TypeId} {size : Nat} {v : Value} {n : Nat} {xs : List Value} (h : w.ownsRow base e size v n xs) : ∀ k, v.ownBlock = some k → base ≤ k := fun k hk => by
  rcases h.2 with ⟨rfl, _⟩ | ⟨g, cap, cur, rfl, hg, _⟩
  · cases hk
  · simp [Value.ownBlock] at hk; omega

theorem run_app_ints (w : World) (base : Nat) (A : Option Addr) (c : Nat) (xs : List Int) (hown : OwnI w base A c xs) (B : Option Addr) (d : Nat) (ys : List Int) (hB : IntsAt w B ys)
    (hlen : (xs.length + ys.length) * 8 ≤ 140737488355328) (hbase : base ≤ w.heap.size) (ty : TypeId) :
    ∃ A' c' w', (Builtin.append_ #[43, 43] ty #[.slice A xs.length c, .slice B ys.length d]).run Tryd.prog w = .ok (.slice A' (xs ++ ys).length c') w' ∧ OwnI w' base A' c' (xs ++ ys) ∧ Below base w w' := by
  obtain ⟨i, hi, hz0, hz1, hz2⟩ := info_parts (P := Tryd.prog) (e := 3) (z := .int .i64 0) (size := 1) (bytes := 8) (by kernel_rfl)
  rcases B with _ | ad
  · have h0 : ys.length = 0 := by
      rcases Nat.eq_zero_or_pos ys.length with h0 | h0
      · exact h0
      · obtain ⟨_, _, e, _⟩ := hB 0 h0
        cases e
    obtain rfl : ys = [] := List.eq_nil_of_length_eq_zero h0
    refine ⟨A, c, w, ?_, by rw [List.append_nil]; exact hown, Below.refl _ _⟩
    rw [List.append_nil]
    rcases hown.2 with ⟨hv, hx⟩ | ⟨g, cap, cur, hv, _, _, hnc, _⟩
    · injection hv with h1 h2 h3
      subst h1; subst h3
      rw [hx]
      simp [Builtin.append_, run_underlying Tryd.underlying43, sizeOf, typeInfo, hi, Builtin.lenOf, Builtin.firstCells]
    · injection hv with h1 h2 h3
      subst h1; subst h3
      simp [Builtin.append_, run_underlying Tryd.underlying43, sizeOf, typeInfo, hi, Builtin.lenOf, Builtin.firstCells, hnc, storeCells]
  · have hcells : ∀ j u, (ys.map (Value.int .i64))[j]? = some u → w.cell? (ad.add j) = some u := fun j u hu => by
      rw [List.getElem?_map, Option.map_eq_some_iff] at hu
      obtain ⟨y, hy, rfl⟩ := hu
      have hj : j < ys.length := (List.getElem?_eq_some_iff.1 hy).1
      obtain ⟨b', off', e, _, hc⟩ := hB j hj
      injection e with e; subst e
      have e : (⟨b', off', none⟩ : Addr).add j = ⟨b', off' + j, none⟩ := by unfold Addr.add; split <;> simp_all
      rw [e, hc, List.getD_eq_getElem?_getD, hy]; rfl
    obtain ⟨v', w', hrun, h2, h3, h4, h5⟩ := run_append_own_at (P := Tryd.prog) w base 43 ty 3 i (.int .i64 0) 1 8 Tryd.underlying43 hi hz0 hz1 hz2 rfl (by decide) _ _ _ hown ad ys.length d (ys.map (Value.int .i64)) (by simp) hcells
      (fun u hu => by obtain ⟨y, _, rfl⟩ := List.mem_map.1 hu; rfl) (by unfold maxLen; omega) hlen hbase
    obtain ⟨A', c', hv⟩ : ∃ A' c', v' = .slice A' (xs.length + ys.length) c' := by
      rcases h2.2 with ⟨hv, hx⟩ | ⟨g, cap, cur, hv, _⟩
      · exact ⟨none, 0, by rw [hv, hx]⟩
      · exact ⟨_, _, hv⟩
    subst hv
    refine ⟨A', c', w', by rw [hrun, List.length_append], ?_, below_of_grown h3 hbase (own_from hown)⟩
    unfold OwnI
    rw [List.length_append, List.map_append]
    exact h2

theorem app_ints {ops : Array Oper} {rest : List Oper} {o : Oper} {a : Act} {Q : Exit → Act → World → Prop} {w : World} (hgd : o.guard = none) (s x : Operand)
    (ho : o.op = .call { callee := .builtin .append, args := #[s, x], argTypes := #[43, 43] })
    (base : Nat) (A : Option Addr) (c : Nat) (xs : List Int) (hs : a.eval s = .slice A xs.length c) (hown : OwnI w base A c xs)
    (B : Option Addr) (d : Nat) (ys : List Int) (hx : a.eval x = .slice B ys.length d) (hB : IntsAt w B ys)
    (hlen : (xs.length + ys.length) * 8 ≤ 140737488355328) (hbase : base ≤ w.heap.size)
    (h : ∀ A' c' zs w', Hid (zs = xs ++ ys) → OwnI w' base A' c' zs → Below base w w' → wpList Tryd.prog ops Q rest (a.put o.dst (.slice A' zs.length c')) w') : wpList Tryd.prog ops Q (o :: rest) a w := by
  obtain ⟨A', c', w', hrun, h2, h3⟩ := run_app_ints w base A c xs hown B d ys hB hlen hbase o.type
  refine wpList_plain hgd fun K hK => ?_
  unfold Oper.wp execOp
  simp only [ho, resolve, invoke, builtin, Sem.run_bind, Sem.run_pure, Result.andThen_ok, List.map_toArray, List.map_cons, List.map_nil, hs, hx, hrun]
  exact hK _ _ (h A' c' (xs ++ ys) w' rfl h2 h3)

end Go.Proofs.YtdedllfgeekogaaDoor
