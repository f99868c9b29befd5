/- LogKeeps, what it holds in memory: counts made one behind the other, and marks; what a raise comes to, in plain words. -/
import Derived.Test.YtkipjloapdolbaaGreatDoorRows
import Derived.Test.YtkipjloapdolbaaGreatDoorNum
import Derived.Test.YtkipjloapdolbaaGreatDoorBase
import Derived.Test.YtkipjloapdolbaaGreatDoorApp
import Derived.Test.YtkipjloapdolbaaGreatDoorFoot
import Derived.Test.YtkipjloapdolbaaGreatDoorImg
import Derived.Test.YtkipjloapdolbaaGreatDoorCntP
import Derived.Test.YtkipjloapdolbaaGreatDoorCntR
import Derived.Test.YtkipjloapdolbaaGreatDoorLogP
import Derived.Test.YtkipjloapdolbaaGreatDoorLogA
import Derived.Test.YtkipjloapdolbaaGreatDoorLogR
import Derived.Test.YtkipjloapdolbaaGreatDoorLogW
import Derived.Test.YtkipjloapdolbaaGreatDoorLogC
import Derived.Test.YtkipjloapdolbaaGreatDoorLogQ
namespace Go.Proofs.YtkipjloapdolbaaGreatDoor
open Go.RowKit
set_option maxRecDepth 100000
set_option linter.unusedSimpArgs false
set_option linter.unusedVariables false

def ptrV (p : Nat) : Value := .pointer (some ⟨p, 0, none⟩)
def intV (n : Int) : Value := .int .i64 n
def Free (T : Nat → Prop) (A1 A2 : Option Addr) (k : Nat) : Prop := T k ∧ ¬ At A1 k ∧ ¬ At A2 k
structure DoneAt (w0 : World) (T : Nat → Prop) (W : World) (A1 : Option Addr) (c1 : Nat) (A2 : Option Addr) (c2 : Nat) (ps : List Nat) (rs : List Rec) (ms : List Int) : Prop where
  len : ps.length = rs.length + 1
  own1 : OwnC W w0.heap.size 35 1 A1 c1 (rs.length + 1) (ps.map ptrV)
  own2 : OwnC W w0.heap.size 3 1 A2 c2 ms.length (ms.map intV)
  t1 : ∀ k, At A1 k → T k
  t2 : ∀ k, At A2 k → T k
  dis : ∀ k, At A1 k → ¬ At A2 k
  tl : ∀ k, T k → w0.heap.size ≤ k ∧ k < W.heap.size
  cnt : ∀ i, i ≤ rs.length → ∃ lb, RC3 W (ps.getD i 0) lb (raisedL (rs.take i)) ∧ Free T A1 A2 (ps.getD i 0) ∧ Free T A1 A2 lb
theorem DoneAt.but {w0 : World} {T S : Nat → Prop} {W W' : World} {A1 : Option Addr} {c1 : Nat} {A2 : Option Addr} {c2 : Nat} {ps : List Nat} {rs : List Rec} {ms : List Int} (h : DoneAt w0 T W A1 c1 A2 c2 ps rs ms) (k : But S W W') (hS : ∀ j, S j → ¬ T j) : DoneAt w0 T W' A1 c1 A2 c2 ps rs ms :=
  ⟨h.len, h.own1.but k (fun a ha hs => hS _ hs (h.t1 _ ⟨a, ha, rfl⟩)), h.own2.but k (fun a ha hs => hS _ hs (h.t2 _ ⟨a, ha, rfl⟩)), h.t1, h.t2, h.dis, fun j hj => ⟨(h.tl j hj).1, Nat.lt_of_lt_of_le (h.tl j hj).2 k.size⟩,
    fun i hi => by
      obtain ⟨lb, h1, h2, h3⟩ := h.cnt i hi
      exact ⟨lb, h1.but k (fun hs => hS _ hs h2.1) (fun hs => hS _ hs h3.1), h2, h3⟩⟩
theorem DoneAt.below {w0 : World} {T : Nat → Prop} {W W' : World} {A1 : Option Addr} {c1 : Nat} {A2 : Option Addr} {c2 : Nat} {ps : List Nat} {rs : List Rec} {ms : List Int} (h : DoneAt w0 T W A1 c1 A2 c2 ps rs ms) (k : Below W.heap.size W W') : DoneAt w0 T W' A1 c1 A2 c2 ps rs ms :=
  h.but (below_but k (fun _ => False)) (fun _ hs => hs.elim)
theorem DoneAt.own_ {w0 : World} {T : Nat → Prop} {W W' : World} {A1 : Option Addr} {c1 : Nat} {A2 : Option Addr} {c2 : Nat} {ps : List Nat} {rs : List Rec} {ms : List Int} (h : DoneAt w0 T W A1 c1 A2 c2 ps rs ms) (k : LogOwn T w0 W W') : DoneAt w0 T W' A1 c1 A2 c2 ps rs ms :=
  h.but k (fun j hj => hj.2)
theorem DoneAt.more {w0 : World} {T T' : Nat → Prop} {W : World} {A1 : Option Addr} {c1 : Nat} {A2 : Option Addr} {c2 : Nat} {ps : List Nat} {rs : List Rec} {ms : List Int} (h : DoneAt w0 T W A1 c1 A2 c2 ps rs ms) (hT : ∀ k, T k → T' k) (hl : ∀ k, T' k → w0.heap.size ≤ k ∧ k < W.heap.size) : DoneAt w0 T' W A1 c1 A2 c2 ps rs ms :=
  ⟨h.len, h.own1, h.own2, fun k hk => hT _ (h.t1 k hk), fun k hk => hT _ (h.t2 k hk), h.dis, hl, fun i hi => by
    obtain ⟨lb, h1, h2, h3⟩ := h.cnt i hi
    exact ⟨lb, h1, ⟨hT _ h2.1, h2.2⟩, ⟨hT _ h3.1, h3.2⟩⟩⟩
/-- T, and what was made since. -/
def Since (T : Nat → Prop) (W W' : World) (j : Nat) : Prop := T j ∨ (W.heap.size ≤ j ∧ j < W'.heap.size)
theorem LogAt.grow {T : Nat → Prop} {w0 W W' : World} {g N : Nat} {L : Lg} (h : LogAt T w0 W g N L) (hb : But T W W') (hT : ∀ k, T k → w0.heap.size ≤ k) : LogAt (Since T W W') w0 W' g N L := by
  obtain ⟨b, h1, h2, h3, h4, h5⟩ := h
  have g1 := h1.ltg
  have g2 := h1.ltb
  refine ⟨b, h1.but hb (fun e => (h5 _ e).2.1 rfl) (fun e => (h5 _ e).2.2.1 rfl) (fun e => (h5 _ e).2.2.2 rfl), h2, h3, h4.trans (hb.below h4.size hT), fun k hk => ?_⟩
  have := hb.size
  rcases hk with hk | hk
  · have := h5 k hk
    exact ⟨by omega, this.2⟩
  · exact ⟨hk.2, by omega, by omega, by omega⟩
theorem At.lt {w : World} {base : Nat} {e : TypeId} {size : Nat} {A : Option Addr} {c n : Nat} {cs : List Value} (h : OwnC w base e size A c n cs) {k : Nat} (hk : At A k) : base ≤ k ∧ k < w.heap.size := by
  obtain ⟨a, ha, rfl⟩ := hk
  exact h.at_ a ha
theorem getD_app_lt {α : Type} (l r : List α) (d : α) (i : Nat) (h : i < l.length) : (l ++ r).getD i d = l.getD i d := by
  rw [List.getD_eq_getElem?_getD, List.getD_eq_getElem?_getD, List.getElem?_append_left h]
theorem getD_app_eq {α : Type} (l : List α) (x d : α) : (l ++ [x]).getD l.length d = x := by
  rw [List.getD_eq_getElem?_getD, List.getElem?_append_right (Nat.le_refl _), Nat.sub_self]; rfl
theorem DoneAt.snoc1 {w0 : World} {T : Nat → Prop} {W W1 : World} {A1 A1' : Option Addr} {c1 c1' : Nat} {A2 : Option Addr} {c2 : Nat} {ps : List Nat} {rs : List Rec} {ms : List Int} (h : DoneAt w0 T W A1 c1 A2 c2 ps rs ms)
    {p lb : Nat} {r : Rec} (hp : RC3 W p lb (raisedL (rs ++ [r]))) (fp : Free T A1 A2 p) (fl : Free T A1 A2 lb) (ho : OwnC W1 w0.heap.size 35 1 A1' c1' (rs.length + 1 + 1) (ps.map ptrV ++ [ptrV p])) (hb : But (At A1) W W1) (ha : ∀ j, At A1' j → At A1 j ∨ j = W.heap.size) (hw : w0.heap.size ≤ W.heap.size) :
    DoneAt w0 (Since T W W1) W1 A1' c1' A2 c2 (ps ++ [p]) (rs ++ [r]) ms := by
  have fr : ∀ k, k < W.heap.size → Free T A1 A2 k → Free (Since T W W1) A1' A2 k := fun k hk hf => ⟨Or.inl hf.1, fun e => by
    rcases ha _ e with e | e
    · exact hf.2.1 e
    · omega, hf.2.2⟩
  refine ⟨by simp [h.len], by rw [List.length_append, List.map_append]; exact ho, h.own2.but hb (fun a ha2 hs => h.dis _ hs ⟨a, ha2, rfl⟩), fun k hk => ?_, fun k hk => Or.inl (h.t2 k hk), fun k hk hk2 => ?_, fun k hk => ?_, fun i hi => ?_⟩
  · rcases ha k hk with e | e
    · exact Or.inl (h.t1 k e)
    · exact Or.inr ⟨by omega, (At.lt ho hk).2⟩
  · rcases ha k hk with e | e
    · exact h.dis k e hk2
    · have := (At.lt h.own2 hk2).2; omega
  · rcases hk with hk | hk
    · exact ⟨(h.tl k hk).1, Nat.lt_of_lt_of_le (h.tl k hk).2 hb.size⟩
    · exact ⟨by omega, hk.2⟩
  · rw [List.length_append, List.length_singleton] at hi
    by_cases hle : i ≤ rs.length
    · obtain ⟨l2, k1, k2, k3⟩ := h.cnt i hle
      rw [getD_app_lt _ _ _ _ (by rw [h.len]; omega), List.take_append_of_le_length hle]
      exact ⟨l2, k1.but hb k2.2.1 k3.2.1, fr _ (h.tl _ k2.1).2 k2, fr _ (h.tl _ k3.1).2 k3⟩
    · obtain rfl : i = rs.length + 1 := by omega
      rw [show rs.length + 1 = ps.length from h.len.symm, getD_app_eq, h.len, List.take_of_length_le (by simp)]
      exact ⟨lb, hp.but hb fp.2.1 fl.2.1, fr _ (h.tl _ fp.1).2 fp, fr _ (h.tl _ fl.1).2 fl⟩
theorem DoneAt.snoc2 {w0 : World} {T : Nat → Prop} {W W1 : World} {A1 A2' : Option Addr} {c1 c2' : Nat} {A2 : Option Addr} {c2 : Nat} {ps : List Nat} {rs : List Rec} {ms : List Int} (h : DoneAt w0 T W A1 c1 A2 c2 ps rs ms)
    {x : Int} (ho : OwnC W1 w0.heap.size 3 1 A2' c2' (ms.length + 1) (ms.map intV ++ [intV x])) (hb : But (At A2) W W1) (ha : ∀ j, At A2' j → At A2 j ∨ j = W.heap.size) (hw : w0.heap.size ≤ W.heap.size) :
    DoneAt w0 (Since T W W1) W1 A1 c1 A2' c2' ps rs (ms ++ [x]) := by
  have fr : ∀ k, k < W.heap.size → Free T A1 A2 k → Free (Since T W W1) A1 A2' k := fun k hk hf => ⟨Or.inl hf.1, hf.2.1, fun e => by
    rcases ha _ e with e | e
    · exact hf.2.2 e
    · omega⟩
  refine ⟨h.len, h.own1.but hb (fun a ha2 hs => h.dis _ ⟨a, ha2, rfl⟩ hs), by rw [List.length_append, List.map_append]; exact ho, fun k hk => Or.inl (h.t1 k hk), fun k hk => ?_, fun k hk hk2 => ?_, fun k hk => ?_, fun i hi => ?_⟩
  · rcases ha k hk with e | e
    · exact Or.inl (h.t2 k e)
    · exact Or.inr ⟨by omega, (At.lt ho hk).2⟩
  · rcases ha k hk2 with e | e
    · exact h.dis k hk e
    · have := (At.lt h.own1 hk).2; omega
  · rcases hk with hk | hk
    · exact ⟨(h.tl k hk).1, Nat.lt_of_lt_of_le (h.tl k hk).2 hb.size⟩
    · exact ⟨by omega, hk.2⟩
  · obtain ⟨l2, k1, k2, k3⟩ := h.cnt i hi
    exact ⟨l2, k1.but hb k2.2.2 k3.2.2, fr _ (h.tl _ k2.1).2 k2, fr _ (h.tl _ k3.1).2 k3⟩
theorem OwnC.take {w : World} {base : Nat} {e : TypeId} {A : Option Addr} {c n : Nat} {cs : List Value} (h : OwnC w base e 1 A c n cs) (k : Nat) (h0 : 0 < n) (hk : k ≤ n) : OwnC w base e 1 A c k (cs.take k) := by
  have h1 : cs.length = n := by have := h.1; omega
  refine ⟨by rw [List.length_take]; omega, ?_⟩
  rcases h.2 with ⟨hv, hn⟩ | ⟨g, cap, cur, hv, hg, hh, z1, z2, z3, z4⟩
  · omega
  · injection hv with e1 e2 e3
    subst e1 e3
    refine Or.inr ⟨g, c, cur, rfl, hg, hh, by omega, z2, z3, ?_⟩
    rw [← z4, List.take_take, Nat.mul_one, Nat.mul_one, Nat.min_eq_left hk]
theorem OwnC.cap {w : World} {base : Nat} {e : TypeId} {size : Nat} {A : Option Addr} {c n : Nat} {cs : List Value} (h : OwnC w base e size A c n cs) : n ≤ c := by
  rcases h.2 with ⟨hv, hn⟩ | ⟨g, cap, cur, hv, hg, hh, z1, z2, z3, z4⟩
  · omega
  · injection hv with e1 e2 e3
    subst e3
    exact z1
theorem DoneAt.take {w0 : World} {T : Nat → Prop} {W : World} {A1 : Option Addr} {c1 : Nat} {A2 : Option Addr} {c2 : Nat} {ps : List Nat} {rs : List Rec} {ms : List Int} (h : DoneAt w0 T W A1 c1 A2 c2 ps rs ms) (k : Nat) (hk : k ≤ rs.length) (hm : ms.length = rs.length + 1) : DoneAt w0 T W A1 c1 A2 c2 (ps.take (k + 1)) (rs.take k) (ms.take (k + 1)) := by
  refine ⟨?_, ?_, ?_, h.t1, h.t2, h.dis, h.tl, fun i hi => ?_⟩
  · rw [List.length_take, List.length_take, h.len]; omega
  · rw [List.length_take, Nat.min_eq_left hk, List.map_take]
    exact h.own1.take (k + 1) (by omega) (by omega)
  · rw [List.length_take, List.map_take, Nat.min_eq_left (by omega)]
    exact h.own2.take (k + 1) (by omega) (by omega)
  · rw [List.length_take] at hi
    obtain ⟨lb, h1, h2, h3⟩ := h.cnt i (by omega)
    have e : (ps.take (k + 1)).getD i 0 = ps.getD i 0 := by rw [List.getD_eq_getElem?_getD, List.getD_eq_getElem?_getD, List.getElem?_take_of_lt (by omega)]
    rw [e, List.take_take, Nat.min_eq_left (by omega)]
    exact ⟨lb, h1, h2, h3⟩
/-- A copy of the last counts, and another one raised: all is as it was. -/
theorem next_made {w0 wb w3 w4 : World} {T : Nat → Prop} {g N : Nat} {L : Lg} {A1 : Option Addr} {c1 : Nat} {A2 : Option Addr} {c2 : Nat} {ps : List Nat} {rs : List Rec} {ms : List Int} {ls : List Cnt} {g' lb' lb2 : Nat}
    (HL : LogAt T w0 wb g N L) (HX : DoneAt w0 T wb A1 c1 A2 c2 ps rs ms) (hb3 : Below wb.heap.size wb w3) (q1 : wb.heap.size ≤ g') (q2 : g' < w3.heap.size) (q3 : wb.heap.size ≤ lb') (q4 : lb' < w3.heap.size)
    (hk4 : But (fun k => k = g' ∨ k = lb') w3 w4) (h4 : RC3 w4 g' lb2 ls) (hl : lb2 = lb' ∨ (w3.heap.size ≤ lb2 ∧ lb2 < w4.heap.size)) :
    ∃ T2, LogAt T2 w0 w4 g N L ∧ DoneAt w0 T2 w4 A1 c1 A2 c2 ps rs ms ∧ Free T2 A1 A2 g' ∧ Free T2 A1 A2 lb2 := by
  have hT := fun k hk => (HX.tl k hk).1
  have z3 := hb3.size
  have z4 := hk4.size
  have hw := HL.bel.size
  have L1 := HL.grow (below_but hb3 T) hT
  have k5 : But (Since T wb w3) w3 w4 := hk4.mono (fun k _ hk => Or.inr (by omega))
  have L2 := L1.grow k5 (fun k hk => by rcases hk with hk | hk; exact hT k hk; omega)
  have X1 := (HX.below hb3).but hk4 (fun j hj hTj => by have := (HX.tl j hTj).2; omega)
  have X2 := X1.more (T' := Since (Since T wb w3) w3 w4) (fun k hk => Or.inl (Or.inl hk)) (fun k hk => by
    rcases hk with (hk | hk) | hk
    · have := HX.tl k hk; omega
    · omega
    · omega)
  have no1 : ∀ k, wb.heap.size ≤ k → ¬ At A1 k := fun k hk h => by have := (HX.tl k (HX.t1 k h)).2; omega
  have no2 : ∀ k, wb.heap.size ≤ k → ¬ At A2 k := fun k hk h => by have := (HX.tl k (HX.t2 k h)).2; omega
  exact ⟨_, L2, X2, ⟨Or.inl (Or.inr ⟨q1, q2⟩), no1 _ q1, no2 _ q1⟩, ⟨by rcases hl with rfl | hl; exact Or.inl (Or.inr ⟨q3, q4⟩); exact Or.inr hl, no1 _ (by omega), no2 _ (by omega)⟩⟩
/-- The last counts, and where they stand. -/
theorem DoneAt.last {w0 : World} {T : Nat → Prop} {W : World} {A1 : Option Addr} {c1 : Nat} {A2 : Option Addr} {c2 : Nat} {ps : List Nat} {rs : List Rec} {ms : List Int} (h : DoneAt w0 T W A1 c1 A2 c2 ps rs ms) (i : Nat) (hi : i ≤ rs.length) :
    ∃ b1 p lb, A1 = some ⟨b1, 0, none⟩ ∧ b1 < W.heap.size ∧ W.cell? ⟨b1, i, none⟩ = some (.pointer (some ⟨p, 0, none⟩)) ∧ RC3 W p lb (raisedL (rs.take i)) := by
  obtain ⟨lb, h1, _, _⟩ := h.cnt i hi
  obtain ⟨b1, o1, e, lt, hc⟩ := h.own1.cells i (ptrV (ps.getD i 0)) (by
    rw [List.getElem?_map, List.getD_eq_getElem?_getD, List.getElem?_eq_getElem (by rw [h.len]; omega)]; rfl)
  have hz := h.own1.zero_off _ e
  have ho : o1 = 0 := congrArg Addr.off hz
  subst ho
  rw [Nat.zero_add] at hc
  exact ⟨b1, _, lb, e, lt, hc, h1⟩
theorem DoneAt.mark {w0 : World} {T : Nat → Prop} {W : World} {A1 : Option Addr} {c1 : Nat} {A2 : Option Addr} {c2 : Nat} {ps : List Nat} {rs : List Rec} {ms : List Int} (h : DoneAt w0 T W A1 c1 A2 c2 ps rs ms) (i : Nat) (hi : i < ms.length) :
    ∃ b2, A2 = some ⟨b2, 0, none⟩ ∧ b2 < W.heap.size ∧ W.cell? ⟨b2, i, none⟩ = some (.int .i64 (ms.getD i 0)) := by
  obtain ⟨b1, o1, e, lt, hc⟩ := h.own2.cells i (intV (ms.getD i 0)) (by
    rw [List.getElem?_map, List.getD_eq_getElem?_getD, List.getElem?_eq_getElem hi]; rfl)
  have hz := h.own2.zero_off _ e
  have ho : o1 = 0 := congrArg Addr.off hz
  subst ho
  rw [Nat.zero_add] at hc
  exact ⟨b1, e, lt, hc⟩
/-- Where each record ends. -/
def marksOf (rs : List Rec) : List Int := (List.range (rs.length + 1)).map (fun i => (flatN (rs.take i) : Int))
theorem marksOf_len (rs : List Rec) : (marksOf rs).length = rs.length + 1 := by simp [marksOf]
theorem marksOf_at (rs : List Rec) (i : Nat) (h : i ≤ rs.length) : (marksOf rs).getD i 0 = (flatN (rs.take i) : Int) := by
  unfold marksOf
  rw [List.getD_eq_getElem?_getD, List.getElem?_map, List.getElem?_range (by omega)]
  rfl
theorem list_ext_getD {l r : List Int} (hl : l.length = r.length) (h : ∀ i, i < l.length → l.getD i 0 = r.getD i 0) : l = r := by
  refine List.ext_getElem? fun i => ?_
  by_cases hi : i < l.length
  · have := h i hi
    rw [List.getD_eq_getElem?_getD, List.getD_eq_getElem?_getD, List.getElem?_eq_getElem hi, List.getElem?_eq_getElem (by omega)] at this
    rw [List.getElem?_eq_getElem hi, List.getElem?_eq_getElem (by omega)]
    exact congrArg some this
  · rw [List.getElem?_eq_none (by omega), List.getElem?_eq_none (by omega)]
theorem marksOf_snoc (rs : List Rec) (r : Rec) : marksOf (rs ++ [r]) = marksOf rs ++ [(flatN (rs ++ [r]) : Int)] := by
  refine list_ext_getD (by simp [marksOf_len]) fun i hi => ?_
  rw [marksOf_len, List.length_append, List.length_singleton] at hi
  rw [marksOf_at _ _ (by rw [List.length_append, List.length_singleton]; omega)]
  by_cases h : i ≤ rs.length
  · rw [getD_app_lt _ _ _ _ (by rw [marksOf_len]; omega), marksOf_at _ _ h, List.take_append_of_le_length h]
  · obtain rfl : i = rs.length + 1 := by omega
    rw [show rs.length + 1 = (marksOf rs).length from (marksOf_len rs).symm, getD_app_eq, marksOf_len, List.take_of_length_le (by simp)]
theorem marksOf_take (rs : List Rec) (k : Nat) (h : k ≤ rs.length) : (marksOf rs).take (k + 1) = marksOf (rs.take k) := by
  refine list_ext_getD (by rw [List.length_take, marksOf_len, marksOf_len, List.length_take]; omega) fun i hi => ?_
  rw [List.length_take, marksOf_len] at hi
  have e : ((marksOf rs).take (k + 1)).getD i 0 = (marksOf rs).getD i 0 := by rw [List.getD_eq_getElem?_getD, List.getD_eq_getElem?_getD, List.getElem?_take_of_lt (by omega)]
  rw [e, marksOf_at _ _ (by omega), marksOf_at _ _ (by rw [List.length_take]; omega), List.take_take, Nat.min_eq_left (by omega)]
/-- What the law takes for the answer. -/
def nextE (rs : List Rec) (s : ByteArray) (v : Int) : Int := if raiseB (raisedL rs) s v = true ∧ rs.length = 30 then 4 else raiseE (raisedL rs) s v
def nextB (rs : List Rec) (s : ByteArray) (v : Int) : Bool := raiseB (raisedL rs) s v && decide (rs.length ≠ 30)
theorem raiseE_set (ls : List Cnt) (s : ByteArray) (v : Int) : raiseE ls s v = 0 ∨ raiseE ls s v = 1 ∨ raiseE ls s v = 3 ∨ raiseE ls s v = 4 := by
  unfold raiseE
  split
  · split
    · exact Or.inr (Or.inl rfl)
    · split
      · exact Or.inl rfl
      · split
        · exact Or.inl rfl
        · split
          · exact Or.inl rfl
          · exact Or.inr (Or.inr (Or.inr rfl))
  · exact Or.inr (Or.inr (Or.inl rfl))
theorem nextE_set (rs : List Rec) (s : ByteArray) (v : Int) : nextE rs s v = 0 ∨ nextE rs s v = 1 ∨ nextE rs s v = 3 ∨ nextE rs s v = 4 := by
  unfold nextE
  split
  · exact Or.inr (Or.inr (Or.inr rfl))
  · exact raiseE_set _ _ _
theorem next_ways (rs : List Rec) (s : ByteArray) (v : Int) : (raiseB (raisedL rs) s v = false → nextB rs s v = false ∧ nextE rs s v = raiseE (raisedL rs) s v) ∧
    (raiseB (raisedL rs) s v = true → rs.length = 30 → nextB rs s v = false ∧ nextE rs s v = 4) ∧ (raiseB (raisedL rs) s v = true → rs.length ≠ 30 → nextB rs s v = true ∧ nextE rs s v = raiseE (raisedL rs) s v) := by
  unfold nextB nextE
  refine ⟨fun h => ?_, fun h h2 => ?_, fun h h2 => ?_⟩
  · rw [h, if_neg (by simp)]; exact ⟨rfl, rfl⟩
  · rw [h, if_pos ⟨rfl, h2⟩]; simp [h2]
  · rw [h, if_neg (by simp [h2])]; simp [h2]
theorem raise_shape {L : Lg} (hO : LgOK L) (s : ByteArray) (v : Int) :
    ((raiseOut L s v).1 = (false, 6) ∧ (raiseOut L s v).2.recs = L.recs) ∨
    ((raiseOut L s v).1 = (false, nextE L.recs s v) ∧ nextB L.recs s v = false ∧ (raiseOut L s v).2 = L) ∨
    ((raiseOut L s v).1 = (true, 0) ∧ nextE L.recs s v = 0 ∧ nextB L.recs s v = true ∧ (raiseOut L s v).2.recs = L.recs ++ [(s, v)] ∧ L.half = [] ∧ (raiseOut L s v).2.half = []) := by
  unfold raiseOut nextE nextB
  cases hst : L.st
  · rw [if_neg (by decide)]
    cases hr : raiseB (raisedL L.recs) s v
    · right; left
      rw [if_neg (by decide), if_neg (by simp)]
      exact ⟨rfl, rfl, rfl⟩
    · rw [if_pos rfl]
      by_cases h30 : L.recs.length = 30
      · right; left
        rw [if_pos h30, if_pos ⟨rfl, h30⟩]
        exact ⟨rfl, by simp [h30], rfl⟩
      · have hn : ¬ (true = true ∧ L.recs.length = 30) := fun h => h30 h.2
        rw [if_neg h30]
        by_cases hl : L.left = 0
        · left
          rw [if_pos hl]
          exact ⟨rfl, rfl⟩
        · right; right
          rw [if_neg hl, if_neg hn]
          exact ⟨rfl, (raiseB_ok hr).1, by simp [h30], rfl, hO.whole hst, rfl⟩
  · left
    rw [if_pos rfl]
    exact ⟨rfl, rfl⟩
theorem sync_shape {L : Lg} (hO : LgOK L) : (syncOut L).2.recs = L.recs ∧ ((syncOut L).1 = 0 → (syncOut L).2.safe = ((bytesB (syncOut L).2.recs (syncOut L).2.half).size : Int)) := by
  unfold syncOut
  cases hst : L.st
  · rw [if_neg (by decide)]
    by_cases hl : L.left = 0
    · rw [if_pos hl]
      exact ⟨rfl, fun h => by simp at h⟩
    · rw [if_neg hl]
      refine ⟨rfl, fun _ => ?_⟩
      show (flatN L.recs : Int) = ((bytesB L.recs L.half).size : Int)
      rw [hO.whole hst, bytesB_len]
  · rw [if_pos rfl]
    exact ⟨rfl, fun h => by simp at h⟩

end Go.Proofs.YtkipjloapdolbaaGreatDoor
