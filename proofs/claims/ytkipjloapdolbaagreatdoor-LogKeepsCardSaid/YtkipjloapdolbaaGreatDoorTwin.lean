/- The reference's Counts copied: Twin. -/
import Derived.Test.YtkipjloapdolbaaGreatDoorRows
import Derived.Test.YtkipjloapdolbaaGreatDoorNum
import Derived.Test.YtkipjloapdolbaaGreatDoorBase
import Derived.Test.YtkipjloapdolbaaGreatDoorApp
import Derived.Test.YtkipjloapdolbaaGreatDoorFoot
import Derived.Test.YtkipjloapdolbaaGreatDoorImg
import Derived.Test.YtkipjloapdolbaaGreatDoorCntP
import Derived.Test.YtkipjloapdolbaaGreatDoorCntR
import Derived.WalkKit
import Derived.WalkSpells
import Derived.Deep.RegionLaw
import Derived.Deep.CutRange
import Derived.Deep.DeepCutAuto
import Derived.Lib.Hide
namespace Go.Proofs.YtkipjloapdolbaaGreatDoor
open Go.RowKit
set_option maxRecDepth 100000
set_option linter.unusedSimpArgs false
set_option linter.unusedVariables false

theorem step_app_cells {P : Program} {ops : Array Oper} {o : Oper} {a : Act} {w : World} {K : Act → World → Prop} {Q : Exit → Act → World → Prop} {E : Prop}
    (hg : o.guard = none) (s x : Operand) (t e : TypeId) (hop : o.op = Op.call { callee := Callee.builtin Builtin.append, args := #[s, x], argTypes := #[t, t] })
    (ht : P.underlying t = some (.slice e)) {z : Value} {size bytes : Nat} (hinfo : (P.info? e).map (fun i => (i.zero, i.size, i.bytes)) = some (some z, size, bytes)) (hzs : z.cells.size = size) (hsz : 0 < size)
    (base : Nat) (A : Option Addr) (c n : Nat) (xs : List Value) (hs : a.eval s = .slice A n c) (hown : OwnC w base e size A c n xs)
    (B : Option Addr) (d m : Nat) (ys : List Value) (hx : a.eval x = .slice B m d) (hB : CellsAt w B ys) (hm : ys.length = m * size) (h1 : ∀ u ∈ ys, u.oneCell' = true)
    (hmax : n + m ≤ 9223372036854775807) (hlen : (n + m) * bytes ≤ 140737488355328) (hbase : base ≤ w.heap.size)
    (h : ∀ A' c' k w', Hid (k = n + m) → OwnC w' base e size A' c' k (xs ++ ys) → Below base w w' → K (a.put o.dst (.slice A' k c')) w') :
    if Region.wanted o (yielded ops a.tmps) = true then Oper.wp P o a w K Q else E := by
  have hw : Region.wanted o (yielded ops a.tmps) = true := by simp [Region.wanted, hg]
  rw [if_pos hw]
  obtain ⟨A', c', w', hrun, h2, h3⟩ := run_app_cells w t e ht hinfo hzs hsz base A c n xs hown B d m ys hB hm h1 hmax hlen hbase o.type
  unfold Oper.wp
  simp only [execOp, hop, resolve, invoke, builtin, Sem.run_bind, Sem.run_pure, Result.andThen_ok, List.map_toArray, List.map_cons, List.map_nil, hs, hx, hrun]
  exact h _ _ _ _ rfl h2 h3

set_option maxHeartbeats 1000000 in
theorem rTwin_any (g lb : Nat) (ls : List Cnt) (w : World) (h : RC3 w g lb ls) (hl : ls.length ≤ 12) :
    Calls Tryz.prog 13 #[.pointer (some ⟨g, 0, none⟩)] w fun e w' => ∃ g' lb', e = .returned (.pointer (some ⟨g', 0, none⟩)) ∧ RC3 w' g' lb' ls ∧ w.heap.size ≤ g' ∧ g' < w'.heap.size ∧ w.heap.size ≤ lb' ∧ lb' < w'.heap.size ∧ Below w.heap.size w w' := by
  obtain ⟨A, c, hB, hO, hat⟩ := h
  have HB1 := hB.alloc_ (.cells #[.slice none 0 0] 38)
  have cB := HB1.cell
  have lB := HB1.lt
  have BN := Box.new w 38 #[.slice none 0 0]
  have HBN := Lib.hid BN
  have cN := BN.cell
  have lN := BN.lt
  have fN := BN.frozen
  have HO := Lib.hid (hO.cells.below (grow_alloc (grow_refl _) (.cells #[.slice none 0 0] 38)))
  clear hB hO hat HB1 BN
  go_enter Tryz.func13, Tryz.ntmps13
  go_upto_region 2 with fail
  go_region_law (refine step_app_cells rfl (.tmp 10) (.tmp 14) 36 71 rfl Tryz.underlying36 infoLeast (by decide) (by decide) (w.heap.size + 1) none 0 0 [] (by simp [Act.eval]) (OwnC.start _ _ _ _) A c ls.length (cntCells ls) (by simp [Act.eval]) (HO.out.below (by repeat (first | exact grow_refl _ | refine grow_alloc ?_ _ | refine grow_drew ?_))) (cntCells_len ls) (cntCells_one ls) (by omega) (by omega) (by simp) ?_; intro A' c' k w' hk' ho' hb'; have G : Box w' w.heap.size 38 #[.slice none 0 0] := Box.belowB (by first | exact HBN.out | exact HBN.out.drew_) hb' (by omega); have cG := G.cell; have fG := G.frozen; have lG := G.lt)
  all_goals
    go_wp2_with fail
    go_ret
    obtain rfl : k = ls.length := by have := hk'.out; omega
    rw [List.nil_append] at ho'
    have hsz : (w'.setCell ⟨w.heap.size, 0, none⟩ (.slice A' ls.length c')).heap.size = w'.heap.size := by simp [World.setCell]
    have hbw : Below w.heap.size w (w'.setCell ⟨w.heap.size, 0, none⟩ (.slice A' ls.length c')) := Below.setCell (Below.trans (by first | exact (grow_alloc (grow_refl w) _) | exact (grow_drew (grow_alloc (grow_refl w) _)) | exact (grow_alloc (grow_drew (grow_refl w)) _)) (hb'.mono (Nat.le_succ _))) (Nat.le_refl _) _
    obtain ⟨lb', h5, h6⟩ : ∃ lb', (∀ j, At A' j → j = lb') ∧ w.heap.size ≤ lb' ∧ lb' < w'.heap.size := by
      rcases A' with _ | a
      · exact ⟨w.heap.size, (fun j hj => by obtain ⟨a, ha, _⟩ := hj; cases ha), Nat.le_refl _, lG⟩
      · have := ho'.at_ a rfl
        exact ⟨a.block, (fun j hj => by obtain ⟨a', ha, hb⟩ := hj; injection ha with ha; rw [ha]; exact hb.symm), by omega, by omega⟩
    refine ⟨w.heap.size, lb', rfl, ⟨A', c', G.set_ 0 (.slice A' ls.length c'), OwnC.farP ho' (p := ⟨w.heap.size, 0, none⟩) (by show w.heap.size < w.heap.size + 1; omega) _, h5⟩, Nat.le_refl _, by rw [hsz]; exact lG, h6.1, by rw [hsz]; exact h6.2, hbw⟩

end Go.Proofs.YtkipjloapdolbaaGreatDoor
