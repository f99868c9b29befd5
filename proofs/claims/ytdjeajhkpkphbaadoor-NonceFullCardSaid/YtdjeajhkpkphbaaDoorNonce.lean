/- nonce: Issue. -/
import Derived.Test.YtdjeajhkpkphbaaDoorRows
import Derived.Test.YtdjeajhkpkphbaaDoorNum
import Derived.Test.YtdjeajhkpkphbaaDoorBase
import Derived.Test.YtdjeajhkpkphbaaDoorMeas
import Derived.Test.YtdjeajhkpkphbaaDoorBank
import Derived.Test.YtdjeajhkpkphbaaDoorApp
import Derived.WalkKit
import Derived.Lib.Hide
import Derived.Deep.RegionLaw
import Derived.Deep.CutRange
import Derived.Deep.DeepCutAuto
namespace Go.Proofs.YtdjeajhkpkphbaaDoor
open Go.RowKit
set_option maxRecDepth 100000

theorem step_app_ints {ops : Array Oper} {o : Oper} {a : Act} {w : World} {K : Act → World → Prop} {Q : Exit → Act → World → Prop} {E : Prop}
    (hg : o.guard = none) (s x : Operand) (hop : o.op = Op.call { callee := Callee.builtin Builtin.append, args := #[s, x], argTypes := #[47, 47] })
    (base : Nat) (A : Option Addr) (c : Nat) (xs : List Int) (hs : a.eval s = .slice A xs.length c) (hown : OwnI w base A c xs)
    (B : Option Addr) (d : Nat) (ys : List Int) (hx : a.eval x = .slice B ys.length d) (hB : IntsAt w B ys)
    (hlen : (xs.length + ys.length) * 8 ≤ 140737488355328) (hbase : base ≤ w.heap.size)
    (h : ∀ A' c' w', OwnI w' base A' c' (xs ++ ys) → Below base w w' → K (a.put o.dst (.slice A' (xs ++ ys).length c')) w') :
    if Region.wanted o (yielded ops a.tmps) = true then Oper.wp Tryd.prog o a w K Q else E := by
  have hw : Region.wanted o (yielded ops a.tmps) = true := by simp [Region.wanted, hg]
  rw [if_pos hw]
  obtain ⟨A', c', w', hrun, h2, h3⟩ := run_app_ints w base A c xs hown B d ys hB hlen hbase o.type
  unfold Oper.wp
  simp only [execOp, hop, resolve, invoke, builtin, Sem.run_bind, Sem.run_pure, Result.andThen_ok, List.map_toArray, List.map_cons, List.map_nil, hs, hx, hrun]
  exact h _ _ _ h2 h3

theorem OwnI.far {w : World} {g : Nat} {A : Option Addr} {c : Nat} {xs : List Int} (h : OwnI w (g + 1) A c xs) (i : Nat) (u : Value) : OwnI (w.setCell ⟨g, i, none⟩ u) (g + 1) A c xs := by
  refine ⟨h.1, ?_⟩
  rcases h.2 with h2 | ⟨b, cap, cur, hv, hg, hh, r⟩
  · exact Or.inl h2
  · refine Or.inr ⟨b, cap, cur, hv, hg, ?_, r⟩
    rw [Below.heap_setCell w ⟨g, i, none⟩ u b (by show b ≠ g; omega)]; exact hh
theorem OwnI.drew_ {w : World} {b : Nat} {A : Option Addr} {c : Nat} {xs : List Int} (h : OwnI w b A c xs) : OwnI w.drew b A c xs := h
theorem nset0 {w : World} {g : Nat} {x y z : Value} (h : Box w g 109 #[x, y, z]) (u : Value) : Box (w.setCell ⟨g, 0, none⟩ u) g 109 #[u, y, z] := by
  have h2 := h.set_ 0 u; simpa using h2
theorem nset1 {w : World} {g : Nat} {x y z : Value} (h : Box w g 109 #[x, y, z]) (u : Value) : Box (w.setCell ⟨g, 1, none⟩ u) g 109 #[x, u, z] := by
  have h2 := h.set_ 1 u; simpa using h2
theorem nset2 {w : World} {g : Nat} {x y z : Value} (h : Box w g 109 #[x, y, z]) (u : Value) : Box (w.setCell ⟨g, 2, none⟩ u) g 109 #[x, y, u] := by
  have h2 := h.set_ 2 u; simpa using h2

set_option maxHeartbeats 2000000 in
theorem issue_more (g : Nat) (la : Int) (ma : Nat) (A : Option Addr) (c : Nat) (xs : List Int) (w : World) (hB : Box w g 109 #[.int .i64 la, .int .i64 ma, .slice A xs.length c]) (hO : OwnI w (g + 1) A c xs) (hl : okM la = true) (hm : ma < 30) (hx : xs.length < 8) :
    Calls Tryd.prog 32 #[.pointer (some ⟨g, 0, none⟩)] w fun e w' => ∃ A' c', e = .returned (.tuple #[.int .i64 (pairM la ma), errV 0]) ∧ Box w' g 109 #[.int .i64 (pairM la ma), .int .i64 (ma + 1), .slice A' (xs.length + 1) c'] ∧ OwnI w' (g + 1) A' c' (xs ++ [pairM la ma]) ∧ Below g w w' := by
  have kv : okM (ma : Int) = true := okM_mk (by omega) (by omega)
  have g1 : ((xs.length : Int) == 8) = false := by simp; omega
  have g2 : ((ma : Int) == 30) = false := by simp; omega
  have cB := hB.cell
  have lB := hB.lt
  have fB := hB.frozen
  obtain ⟨V, hV⟩ : ∃ V, pairM la ma = V := ⟨_, rfl⟩
  rw [hV]
  have HV := Lib.hid hV
  have HO := Lib.hid hO
  clear hV hO
  go_enter Tryd.func32, Tryd.ntmps32
  go_upto_region 3 with fail
  go_cut [18] (fun _ wx => Hid (Box wx g 109 #[.int .i64 V, .int .i64 ma, .slice A xs.length c]) ∧ Hid (OwnI wx (g + 1) A c xs) ∧ Below g w wx)
  case first =>
    go_region_with (go_at_call 46; refine (pair_any _ _ _ hl kv).mono ?_; rintro e w' ⟨rfl, rfl⟩; rw [HV.out])
    all_goals
      go_wp2_with fail
      go_meet
      exact ⟨Lib.hid (nset0 hB _).drew_, Lib.hid (OwnI.drew_ (HO.out.far 0 _)), Below.drew ((Below.refl g w).setCell (Nat.le_refl _) _)⟩
  case rest =>
  obtain ⟨HB1, HO1, hb1⟩ := hcut
  have cB1 := HB1.out.cell
  have lB1 := HB1.out.lt
  have fB1 := HB1.out.frozen
  clear cB fB
  go_upto_region 5 with fail
  have HB2 := nset1 HB1.out (.int .i64 (ma + 1))
  have HO2 := Lib.hid (HO1.out.far 1 (.int .i64 (ma + 1)))
  have cB2 := HB2.cell
  have lB2 := HB2.lt
  have fB2 := HB2.frozen
  have lB2' := HB2.lt
  have hb2 : Below g w (wc.setCell ⟨g, 1, none⟩ (.int .i64 (ma + 1))) := hb1.setCell (Nat.le_refl _) _
  clear cB1 fB1
  go_cut [37] (fun _ wx => ∃ A' c', Hid (Box wx g 109 #[.int .i64 V, .int .i64 (ma + 1), .slice A' (xs.length + 1) c']) ∧ Hid (OwnI wx (g + 1) A' c' (xs ++ [V])) ∧ Below g w wx)
  case first =>
    go_region_law (refine step_app_ints rfl (.tmp 41) (.tmp 46) rfl (g + 1) A c xs (by simp [Act.eval]) (HO2.out.below (by repeat (first | exact grow_refl _ | refine grow_alloc ?_ _ | refine grow_drew ?_))) (some ⟨(wc.setCell ⟨g, 1, none⟩ (.int .i64 (ma + 1))).heap.size, 0, none⟩) 1 [V] (by simp [Act.eval]) (IntsAt.new_ _ _ [V] (0, 0)) (by simp; omega) (by simp; omega) ?_; intro A' c' w' ho' hb'; have G : Box w' g 109 #[.int .i64 V, .int .i64 (ma + 1), .slice A xs.length c] := Box.belowB (by first | exact HB2.alloc_ _ | exact (HB2.alloc_ _).drew_ | exact HB2.drew_.alloc_ _) hb' (by omega); have cG := G.cell; have fG := G.frozen; have lG := G.lt)
    all_goals
      go_wp2_with fail
      go_meet
      exact ⟨A', c', Lib.hid (nset2 G _), Lib.hid (ho'.far 2 _), Below.setCell (Below.trans (by first | exact hb2.alloc (Nat.le_of_lt HB2.lt) _ | exact hb2.drew.alloc (Nat.le_of_lt HB2.lt) _ | exact (hb2.alloc (Nat.le_of_lt HB2.lt) _).drew) (hb'.mono (Nat.le_succ _))) (Nat.le_refl _) _⟩
  case rest =>
  obtain ⟨A', c', HB3, HO3, hb3⟩ := hcut
  have cB3 := HB3.out.cell
  have lB3 := HB3.out.lt
  clear cB2 fB2
  go_wp2_with fail
  go_ret2
  exact ⟨A', c', rfl, HB3.out, HO3.out, hb3⟩

set_option maxHeartbeats 400000 in
theorem issue_full (g : Nat) (la : Int) (ma : Nat) (A : Option Addr) (c : Nat) (xs : List Int) (w : World) (hB : Box w g 109 #[.int .i64 la, .int .i64 ma, .slice A xs.length c]) (hx : xs.length = 8) :
    Calls Tryd.prog 32 #[.pointer (some ⟨g, 0, none⟩)] w fun e w' => e = .returned (.tuple #[.int .i64 0, errV 4]) ∧ w = w' := by
  have g1 : ((xs.length : Int) == 8) = true := by simp; omega
  have cB := hB.cell
  have lB := hB.lt
  clear hx
  go_enter Tryd.func32, Tryd.ntmps32
  go_wp2_with fail
  go_ret2
  exact ⟨rfl, rfl⟩
set_option maxHeartbeats 400000 in
theorem open_any (g : Nat) (u v : Value) (A : Option Addr) (c n : Nat) (w : World) (hB : Box w g 109 #[u, v, .slice A n c]) :
    Calls Tryd.prog 33 #[.pointer (some ⟨g, 0, none⟩)] w fun e w' => e = .returned (.int .i64 n) ∧ w = w' := by
  have cB := hB.cell
  have lB := hB.lt
  go_enter Tryd.func33, Tryd.ntmps33
  go_wp2_with fail
  go_ret
  exact ⟨rfl, rfl⟩
set_option maxHeartbeats 400000 in
theorem nonceNew_yes (s : Int) (w : World) (hs : okM s = true) :
    Calls Tryd.prog 31 #[.int .i64 s] w fun e w' => e = .returned (.tuple #[.pointer (some ⟨w.heap.size, 0, none⟩), errV 0]) ∧ w' = w.alloc (.cells #[.int .i64 s, .int .i64 0, .slice none 0 0] 109) := by
  go_enter Tryd.func31, Tryd.ntmps31
  go_wp2_with (go_at_call 44; refine (mIs_any _ _).mono ?_; rintro e w' ⟨rfl, rfl⟩; rw [hs])
  go_ret2
  exact ⟨rfl, rfl⟩
set_option maxHeartbeats 400000 in
theorem nonceNew_no (s : Int) (w : World) (hs : okM s = false) :
    Calls Tryd.prog 31 #[.int .i64 s] w fun e w' => e = .returned (.tuple #[.pointer none, errV 1]) ∧ w = w' := by
  go_enter Tryd.func31, Tryd.ntmps31
  go_wp2_with (go_at_call 44; refine (mIs_any _ _).mono ?_; rintro e w' ⟨rfl, rfl⟩; rw [hs])
  go_ret2
  exact ⟨rfl, rfl⟩

end Go.Proofs.YtdjeajhkpkphbaaDoor
