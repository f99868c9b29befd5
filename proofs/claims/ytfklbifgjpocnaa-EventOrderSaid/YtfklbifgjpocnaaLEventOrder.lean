/- EventOrder: what touches other registers may change places. -/
import Derived.Test.YtfklbifgjpocnaaRows
import Derived.Test.YtfklbifgjpocnaaOpE
import Derived.Test.YtfklbifgjpocnaaEvent2
import Derived.Test.YtfklbifgjpocnaaEvPlain
import Derived.Test.YtfklbifgjpocnaaBank3
import Derived.Test.YtfklbifgjpocnaaEq8
import Derived.WalkKit
import Derived.Lib.Hide
import Derived.Deep.QuietTactic
import Derived.BigQuiet
namespace Go.Proofs.Ytfklbifgjpocnaa
open Go.ChangeShapes Go.WideShapes Go.ChangeAt Go.RowKit
set_option linter.unusedVariables false
set_option maxRecDepth 100000

theorem infoEv : (Try.prog.info? 48).map (fun i => (i.zero, i.size, i.bytes)) = some (some (.agg #[.int .i64 0, .int .i64 0]), 2, 16) := by kernel_rfl
theorem ev_eql (x m y n : Int) (w : World) : (binOp .eql 48 (.agg #[.int .i64 x, .int .i64 m]) (.agg #[.int .i64 y, .int .i64 n])).run Try.prog w = .ok (.bool (x == y && m == n)) w := by
  have e0 : (Op.equalIn 10000 48 (.agg #[.int .i64 x, .int .i64 m]) (.agg #[.int .i64 y, .int .i64 n])).run Try.prog w = .ok (x == y && m == n) w := by
    cases h1 : (x == y)
    · have e : x ≠ y := by simpa using h1
      simp [go_sem, Op.eqFields, h1, Try.underlying48, Try.underlying3, part]
    · have e : x = y := by simpa using h1
      by_cases hmn : m = n <;> simp [hmn, go_sem, Op.eqFields, h1, Try.underlying48, Try.underlying3, part]
  rw [run_eql_struct, e0]; rfl
theorem ev_guard (x m y n : Int) (o p : Operand) (w : World) : (eqGuard .eql 48 o p (.agg #[.int .i64 x, .int .i64 m]) (.agg #[.int .i64 y, .int .i64 n])).run Try.prog w = .ok () w := by kernel_rfl

theorem evs2 (w : World) (x m : Int) : EvsAt ((w.alloc (.cells #[.int .i64 x, .int .i64 m] 48)).alloc (.cells #[.int .i64 1, .int .i64 5, .int .i64 1, .int .i64 5] 48)) (some ⟨w.heap.size + 1, 0, none⟩) [(1, 5), (1, 5)] := by
  have h : CellsAt ((w.alloc (.cells #[.int .i64 x, .int .i64 m] 48)).alloc (.cells #[.int .i64 1, .int .i64 5, .int .i64 1, .int .i64 5] 48)) (some ⟨(w.alloc (.cells #[.int .i64 x, .int .i64 m] 48)).heap.size, 0, none⟩) (evCells [(1, 5), (1, 5)]) := CellsAt.new_ _ 48 _ (0, 0)
  have e : (w.alloc (.cells #[.int .i64 x, .int .i64 m] 48)).heap.size = w.heap.size + 1 := by simp
  rw [e] at h
  exact EvsAt.of_cells h

theorem evCells_set : ∀ (es : List (Int × Int)) (i : Nat) (e : Int × Int), i < es.length → evCells (es.set i e) = ((evCells es).set (i * 2) (.int .i64 e.1)).set (i * 2 + 1) (.int .i64 e.2)
  | a :: es, 0, e, _ => rfl
  | a :: es, i + 1, e, h => by
    have ih := evCells_set es i e (by simpa using h)
    have e1 : (i + 1) * 2 = i * 2 + 2 := by omega
    have e2 : (i + 1) * 2 + 1 = i * 2 + 1 + 2 := by omega
    have e3 : ∀ (a : Int × Int) es, evCells (a :: es) = .int .i64 a.1 :: .int .i64 a.2 :: evCells es := fun a es => by unfold evCells; rw [List.flatMap_cons]; rfl
    rw [e2, e1, List.set_cons_succ, e3, e3, List.set_cons_succ, List.set_cons_succ, List.set_cons_succ, List.set_cons_succ, ih]

theorem own_at {w : World} {base n : Nat} {e : TypeId} {size : Nat} {A : Option Addr} {c : Nat} {cs : List Value} (h : OwnC w base e size A c n cs) (hn : 0 < n) : ∃ g, A = some ⟨g, 0, none⟩ ∧ base ≤ g ∧ g < w.heap.size := by
  obtain ⟨g, cap, hv, hb, hl⟩ := World.ownsRow.form h hn
  injection hv with hv _ _
  exact ⟨g, hv, hb, hl⟩

theorem own_swap {w : World} {base c g : Nat} {es : List (Int × Int)} (h : OwnC w base 48 2 (some ⟨g, 0, none⟩) c es.length (evCells es)) (n : Nat) (hn : n + 1 < es.length) {x0 m0 x1 m1 : Int}
    (h0 : es.getD n (0, 0) = (x0, m0)) (h1 : es.getD (n + 1) (0, 0) = (x1, m1)) :
    EvsAt ((((w.setCell ⟨g, n * 2, none⟩ (.int .i64 x1)).setCell ⟨g, n * 2 + 1, none⟩ (.int .i64 m1)).setCell ⟨g, (n + 1) * 2, none⟩ (.int .i64 x0)).setCell ⟨g, (n + 1) * 2 + 1, none⟩ (.int .i64 m0)) (some ⟨g, 0, none⟩) (swapE es n) := by
  have hcap : ∃ cap, cap = c := ⟨c, rfl⟩
  have s1 := (World.ownsRow.stored h (n * 2) (.int .i64 x1)).1
  have s2 := (World.ownsRow.stored s1 (n * 2 + 1) (.int .i64 m1)).1
  have s3 := (World.ownsRow.stored s2 ((n + 1) * 2) (.int .i64 x0)).1
  have s4 := (World.ownsRow.stored s3 ((n + 1) * 2 + 1) (.int .i64 m0)).1
  have e : ((((evCells es).set (n * 2) (.int .i64 x1)).set (n * 2 + 1) (.int .i64 m1)).set ((n + 1) * 2) (.int .i64 x0)).set ((n + 1) * 2 + 1) (.int .i64 m0) = evCells (swapE es n) := by
    unfold swapE
    rw [evCells_set _ _ _ (by simpa using hn), evCells_set _ _ _ (by omega), h0, h1]
  rw [e] at s4
  exact EvsAt.of_cells (OwnC.cells (base := base) (e := 48) (size := 2) (c := c) (n := es.length) s4)

theorem own_facts {w : World} {base c g : Nat} {es : List (Int × Int)} (h : OwnC w base 48 2 (some ⟨g, 0, none⟩) c es.length (evCells es)) (n : Nat) (hn : n + 1 < es.length) {x0 m0 x1 m1 : Int}
    (h0 : es.getD n (0, 0) = (x0, m0)) (h1 : es.getD (n + 1) (0, 0) = (x1, m1)) :
    (∀ j, w.frozen? ⟨g, j, none⟩ = false) ∧ w.cell? ⟨g, n * 2, none⟩ = some (.int .i64 x0) ∧
    (w.setCell ⟨g, n * 2, none⟩ (.int .i64 x1)).cell? ⟨g, n * 2 + 1, none⟩ = some (.int .i64 m0) ∧
    ((w.setCell ⟨g, n * 2, none⟩ (.int .i64 x1)).setCell ⟨g, n * 2 + 1, none⟩ (.int .i64 m1)).cell? ⟨g, (n + 1) * 2, none⟩ = some (.int .i64 x1) ∧
    (((w.setCell ⟨g, n * 2, none⟩ (.int .i64 x1)).setCell ⟨g, n * 2 + 1, none⟩ (.int .i64 m1)).setCell ⟨g, (n + 1) * 2, none⟩ (.int .i64 x0)).cell? ⟨g, (n + 1) * 2 + 1, none⟩ = some (.int .i64 m1) := by
  obtain ⟨a0, a1⟩ := evCells_at es n (by omega)
  obtain ⟨a2, a3⟩ := evCells_at es (n + 1) hn
  rw [h0] at a0 a1
  rw [h1] at a2 a3
  have hne : ∀ (a b : Nat), a ≠ b → (⟨g, a, none⟩ : Addr) ≠ ⟨g, b, none⟩ := fun a b hab e => hab (by injection e)
  have k0 := (World.ownsRow.cellAt h (n * 2) (by omega)).trans a0
  have k1 := (World.ownsRow.cellAt h (n * 2 + 1) (by omega)).trans a1
  have k2 := (World.ownsRow.cellAt h ((n + 1) * 2) (by omega)).trans a2
  have k3 := (World.ownsRow.cellAt h ((n + 1) * 2 + 1) (by omega)).trans a3
  refine ⟨World.ownsRow.frozenAt h, k0, ?_, ?_, ?_⟩
  · rw [World.cell?_setCell_other _ _ _ _ (hne _ _ (by omega))]; exact k1
  · rw [World.cell?_setCell_other _ _ _ _ (hne _ _ (by omega)), World.cell?_setCell_other _ _ _ _ (hne _ _ (by omega))]; exact k2
  · rw [World.cell?_setCell_other _ _ _ _ (hne _ _ (by omega)), World.cell?_setCell_other _ _ _ _ (hne _ _ (by omega)), World.cell?_setCell_other _ _ _ _ (hne _ _ (by omega))]; exact k3

theorem replay_len (A : Option Addr) (c k : Nat) (es : List (Int × Int)) (w : World) (hk : k = es.length) (hA : EvsAt w A es) (hbig : es.length ≤ 9223372036854775806) :
    Calls Try.prog 23 #[.slice A k c] w (ReplayPost es w) := by
  subst hk; exact replay_any A c es w hA hbig
theorem rep_bank {es : List (Int × Int)} (h : evE es = 0) : repB es = evBank es := by unfold repB; rw [if_pos h]
theorem swap_law {es : List (Int × Int)} {n : Nat} {x0 m0 x1 m1 : Int} {d y : List Int} (h : evE es = 0) (hn : n + 1 < es.length) (h0 : es.getD n (0, 0) = (x0, m0)) (h1 : es.getD (n + 1) (0, 0) = (x1, m1))
    (hd : d = repB (swapE es n)) (hy : y = repB es) : (x0 ≠ x1 → (d == y) = true) ∧ (x0 = x1 → (d == y) = (m0 == m1)) := by
  rw [rep_bank (swap_ok h n hn)] at hd
  rw [rep_bank h] at hy
  constructor
  · intro hx
    have := swap_other h n hn (by rw [h0, h1]; exact hx)
    rw [hd, hy, this]; exact beq_self_eq_true _
  · intro hx
    have := swap_same h n hn (by rw [h0, h1]; exact hx)
    rw [h0, h1] at this
    rw [hd, hy, Bool.eq_iff_iff, beq_iff_eq, beq_iff_eq]; exact this

set_option maxHeartbeats 1000000 in
theorem eventOrder_walk (w : World) (A : Option Addr) (es : List (Int × Int)) (c : Nat) (i x m : Int) (hA : EvsAt w A es) (hz : es.length * 16 ≤ 140737488351232) (hc : es.length ≤ c) (i1 : I64 i) (i2 : I64 x) (i3 : I64 m) :
    Calls Try.prog 8 #[.slice A es.length c, .int .i64 i, .agg #[.int .i64 x, .int .i64 m]] w fun e w' => e = .returned (.bool true) ∧ Below w.heap.size w w' := by
  have en := fun k w => err_neq k w
  have ee := fun k w => err_eql k w
  have gn := fun o k w => err_guard_neq o k w
  have ge := fun o k w => err_guard_eql o k w
  have HA := Lib.hid hA
  have F0 : Hid (repB [(1, 5), (1, 5)] = [0, 47520, 0, 0, 0, 0, 0, 0] ∧ evE [(1, 5), (1, 5)] = 0) := Lib.hid (by decide)
  clear hA i1 i2 i3
  by_cases h0 : evE es = 0
  · have H0 := Lib.hid h0
    clear h0
    go_enter Try.func8, Try.ntmps8
    go_wp2_with fail
    refine (replay_any _ 2 [(1, 5), (1, 5)] _ (evs2 w x m) (by simp)).mono ?_
    rintro e w1 ⟨y0, y1, y2, y3, y4, y5, y6, y7, hy, rfl, hb1⟩
    rw [F0.out.1] at hy
    simp only [List.cons.injEq, and_true] at hy
    obtain ⟨rfl, rfl, rfl, rfl, rfl, rfl, rfl, rfl⟩ := hy
    rw [F0.out.2]
    have M1 : Box w1 w.heap.size 48 #[.int .i64 x, .int .i64 m] := ((Box.new _ _ _).alloc_ _).below hb1
    go_wp2_with fail
    refine (replay_any A c es _ (HA.out.below (by repeat (first | (with_reducible exact grow_refl _) | (with_reducible assumption) | (with_reducible refine grow_alloc ?_ _) | (with_reducible refine grow_set ?_ (by first | exact Nat.le_refl _ | (simp; done) | (simp; omega) | omega) _) | (with_reducible refine grow_drewN ?_ _) | (with_reducible refine grow_drew ?_) | (with_reducible refine grow_step ?_ (by assumption)) | (with_reducible refine grow_base ?_ (by assumption))))) (by omega)).mono ?_
    rintro e w2 ⟨y0, y1, y2, y3, y4, y5, y6, y7, hy, rfl, hb2⟩
    rw [H0.out]
    have HY := Lib.hid hy
    clear hy
    have M2 := (M1.alloc_ (.cells #[.int .i64 0, .int .i64 47520, .int .i64 0, .int .i64 0, .int .i64 0, .int .i64 0, .int .i64 0, .int .i64 0] 50)).below hb2
    have M3 := M2.alloc_ (.cells #[.int .i64 y0, .int .i64 y1, .int .i64 y2, .int .i64 y3, .int .i64 y4, .int .i64 y5, .int .i64 y6, .int .i64 y7] 50)
    have B3 := Box.new w2 50 #[.int .i64 y0, .int .i64 y1, .int .i64 y2, .int .i64 y3, .int .i64 y4, .int .i64 y5, .int .i64 y6, .int .i64 y7]
    have tok1 : True := trivial
    have g3 : Below w.heap.size w (w2.alloc (.cells #[.int .i64 y0, .int .i64 y1, .int .i64 y2, .int .i64 y3, .int .i64 y4, .int .i64 y5, .int .i64 y6, .int .i64 y7] 50)) := (by repeat (first | (with_reducible exact grow_refl _) | (with_reducible assumption) | (with_reducible refine grow_alloc ?_ _) | (with_reducible refine grow_set ?_ (by first | exact Nat.le_refl _ | (simp; done) | (simp; omega) | omega) _) | (with_reducible refine grow_drewN ?_ _) | (with_reducible refine grow_drew ?_) | (with_reducible refine grow_step ?_ (by assumption)) | (with_reducible refine grow_base ?_ (by assumption))))
    have HA3 := Lib.hid (HA.out.below g3)
    have hsz : (w2.alloc (.cells #[.int .i64 y0, .int .i64 y1, .int .i64 y2, .int .i64 y3, .int .i64 y4, .int .i64 y5, .int .i64 y6, .int .i64 y7] 50)).heap.size = w2.heap.size + 1 := by simp
    have HSZ := Lib.hid hsz
    clear hsz
    go_wp2_with (first
      | (at_builtin; have _t := tok1; clear tok1; refine app_cells rfl _ _ 46 48 rfl Try.underlying46 infoEv (by decide) (by decide) (w2.heap.size + 1) none 0 0 [] rfl (OwnC.start _ _ _ _) A c es.length (evCells es) rfl HA3.out.cells (evCells_len es) (evCells_one es) (by omega) (by omega) (by rw [HSZ.out]; exact Nat.le_refl _) ?_; intro A1 c1 k1 w3 hk1 ho1 hb3; have g3' : Below (w2.alloc (.cells #[.int .i64 y0, .int .i64 y1, .int .i64 y2, .int .i64 y3, .int .i64 y4, .int .i64 y5, .int .i64 y6, .int .i64 y7] 50)).heap.size (w2.alloc (.cells #[.int .i64 y0, .int .i64 y1, .int .i64 y2, .int .i64 y3, .int .i64 y4, .int .i64 y5, .int .i64 y6, .int .i64 y7] 50)) w3 := (by rw [HSZ.out]; exact hb3); have M4 := M3.below g3'; have cM := M4.cell; have lM := M4.lt; have lw : w2.heap.size + 1 ≤ w3.heap.size := (by have := g3'.size; rw [HSZ.out] at this; exact this))
      | (at_builtin; refine app_cells rfl _ _ 46 48 rfl Try.underlying46 infoEv (by decide) (by decide) (w2.heap.size + 1) A1 c1 k1 ([] ++ evCells es) rfl (ho1.below (grow_alloc (grow_refl _) _)) (some ⟨w3.heap.size, 0, none⟩) 1 1 (evCells [(x, m)]) rfl (CellsAt.new_ w3 48 (evCells [(x, m)]) (0, 0)) (by simp [evCells]) (evCells_one _) (by have := hk1.out; omega) (by have := hk1.out; omega) (by simp; omega) ?_; intro A2 c2 k2 w4 hk2 ho2 hb4))
    obtain ⟨ws, hws⟩ : ∃ ws, ws = es ++ [(x, m)] := ⟨_, rfl⟩
    obtain rfl : k2 = ws.length := by rw [hk2.out, hk1.out, hws]; simp
    have hE2 : EvsAt w4 A2 ws := EvsAt.of_cells (by rw [hws, evCells_append]; exact ho2.cells)
    have hwl : ws.length ≤ 9223372036854775806 := by rw [hws]; simp; omega
    have HWS := Lib.hid hws
    clear hws hk1 hk2 cM lM
    have g5 : Below w.heap.size w w4 := (grow_alloc (grow_step g3 g3') _).trans (hb4.mono (by have := g3.size; rw [HSZ.out] at this; exact this))
    have B4 : Box w4 w2.heap.size 50 #[.int .i64 y0, .int .i64 y1, .int .i64 y2, .int .i64 y3, .int .i64 y4, .int .i64 y5, .int .i64 y6, .int .i64 y7] := Box.belowB ((B3.below g3').alloc_ _) hb4 (Nat.lt_succ_self _)
    have M5 : Box w4 w.heap.size 48 #[.int .i64 x, .int .i64 m] := Box.belowB (M4.alloc_ _) hb4 (by have := M2.lt; omega)
    refine (replay_any A2 c2 ws _ hE2 hwl).mono ?_
    rintro e w5 ⟨z0, z1, z2, z3, z4, z5, z6, z7, hzz, rfl, hb5⟩
    have HZ := Lib.hid hzz
    clear hzz
    have B5 := B4.below hb5
    have M6 := M5.below hb5
    have cB := B5.cell; have lB := B5.lt; have cM := M6.cell; have lM := M6.lt
    have g6 : Below w.heap.size w w5 := grow_step g5 hb5
    by_cases hw0 : evE ws = 0
    · have hmore := more_ok H0.out (by rw [← HWS.out]; exact hw0)
      rw [← HY.out] at hmore
      have HM := Lib.hid hmore
      have HW0 := Lib.hid hw0
      clear hmore hw0
      rw [HW0.out]
      go_wp2_with fail
      clear cB lB cM lM
      refine (extend_any y0 y1 y2 y3 y4 y5 y6 y7 _ _ _).mono ?_
      rintro e w6 ⟨q0, q1, q2, q3, q4, q5, q6, q7, hv, rfl, hb6⟩
      have hv2 : [q0, q1, q2, q3, q4, q5, q6, q7] = [z0, z1, z2, z3, z4, z5, z6, z7] := by rw [hv, HZ.out, HWS.out]; exact HM.out.2.1.symm
      simp only [List.cons.injEq, and_true] at hv2
      obtain ⟨rfl, rfl, rfl, rfl, rfl, rfl, rfl, rfl⟩ := hv2
      clear hv
      rw [HM.out.2.2]
      have C6 : Box w6 w5.heap.size 50 #[.int .i64 q0, .int .i64 q1, .int .i64 q2, .int .i64 q3, .int .i64 q4, .int .i64 q5, .int .i64 q6, .int .i64 q7] := (Box.new _ _ _).below hb6
      have B6 := (B5.alloc_ (.cells #[.int .i64 q0, .int .i64 q1, .int .i64 q2, .int .i64 q3, .int .i64 q4, .int .i64 q5, .int .i64 q6, .int .i64 q7] 50)).below hb6
      have cC := C6.cell; have lC := C6.lt
      have rq := fun w => run_eq8_neq q0 q1 q2 q3 q4 q5 q6 q7 q0 q1 q2 q3 q4 q5 q6 q7 w
      have rg := fun o p w => run_eq8_guard q0 q1 q2 q3 q4 q5 q6 q7 q0 q1 q2 q3 q4 q5 q6 q7 .neq o p w
      have hself : ([q0, q1, q2, q3, q4, q5, q6, q7] == [q0, q1, q2, q3, q4, q5, q6, q7]) = true := beq_self_eq_true _
      have g7 : Below w.heap.size w (w6.alloc (.cells #[.int .i64 q0, .int .i64 q1, .int .i64 q2, .int .i64 q3, .int .i64 q4, .int .i64 q5, .int .i64 q6, .int .i64 q7] 50)) := (by repeat (first | (with_reducible exact grow_refl _) | (with_reducible assumption) | (with_reducible refine grow_alloc ?_ _) | (with_reducible refine grow_set ?_ (by first | exact Nat.le_refl _ | (simp; done) | (simp; omega) | omega) _) | (with_reducible refine grow_drewN ?_ _) | (with_reducible refine grow_drew ?_) | (with_reducible refine grow_step ?_ (by assumption)) | (with_reducible refine grow_base ?_ (by assumption))))
      by_cases hi : 0 ≤ i ∧ i < (es.length : Int) - 1
      · obtain ⟨n, rfl⟩ : ∃ n : Nat, i = n := ⟨i.toNat, by omega⟩
        have hn : n + 1 < es.length := by omega
        have g7s := g7.size
        have BB := B6.alloc_ (.cells #[.int .i64 q0, .int .i64 q1, .int .i64 q2, .int .i64 q3, .int .i64 q4, .int .i64 q5, .int .i64 q6, .int .i64 q7] 50)
        have lBB := BB.lt
        obtain ⟨bA, oA, rfl, hbA, _, _⟩ := HA.out n (by omega)
        have tok2 : True := trivial
        go_wp2_with (at_builtin; have _t := tok2; clear tok2; refine app_cells rfl _ _ 46 48 rfl Try.underlying46 infoEv (by decide) (by decide) _ none 0 0 [] rfl (OwnC.start _ _ _ _) (some ⟨bA, oA, none⟩) c es.length (evCells es) rfl (HA.out.below (by repeat (first | (with_reducible exact grow_refl _) | (with_reducible assumption) | (with_reducible refine grow_alloc ?_ _) | (with_reducible refine grow_set ?_ (by first | exact Nat.le_refl _ | (simp; done) | (simp; omega) | omega) _) | (with_reducible refine grow_drewN ?_ _) | (with_reducible refine grow_drew ?_) | (with_reducible refine grow_step ?_ (by assumption)) | (with_reducible refine grow_base ?_ (by assumption))))).cells (evCells_len es) (evCells_one es) (by omega) (by omega) (Nat.le_refl _) ?_; intro A3 c3 k3 w7 hk3 ho3 hb7; (obtain ⟨g, rfl, hg, hgl⟩ := own_at ho3 (by have := hk3.out; omega)); (obtain rfl : k3 = es.length := by rw [hk3.out]; simp); (have g8 : Below w.heap.size w w7 := grow_step (by repeat (first | (with_reducible exact grow_refl _) | (with_reducible assumption) | (with_reducible refine grow_alloc ?_ _) | (with_reducible refine grow_set ?_ (by first | exact Nat.le_refl _ | (simp; done) | (simp; omega) | omega) _) | (with_reducible refine grow_drewN ?_ _) | (with_reducible refine grow_drew ?_) | (with_reducible refine grow_step ?_ (by assumption)) | (with_reducible refine grow_base ?_ (by assumption)))) hb7); (obtain ⟨b', o', e', _, p1, p2⟩ := (HA.out.below g8) n (by omega)); injection e' with e'; injection e' with q1 q2; subst q1; subst q2; (obtain ⟨b', o', e', _, p3, p4⟩ := (HA.out.below g8) (n + 1) hn); injection e' with e'; injection e' with q1 q2; subst q1; subst q2; (obtain ⟨⟨x0, m0⟩, hx0⟩ : ∃ x, es.getD n (0, 0) = x := ⟨_, rfl⟩); (obtain ⟨⟨x1, m1⟩, hx1⟩ : ∃ x, es.getD (n + 1) (0, 0) = x := ⟨_, rfl⟩); rw [hx0] at p1 p2; rw [hx1] at p3 p4; simp only at p1 p2 p3 p4; have hsw := Lib.hid (own_swap ho3 n hn hx0 hx1); (obtain ⟨fz, k0, k1, k2, k3⟩ := own_facts ho3 n hn hx0 hx1); (have hA1 : bA ≠ g := by omega); have hA2 := hA1.symm; (have hgb : w2.heap.size ≠ g := (by omega)); have HX0 := Lib.hid hx0; have HX1 := Lib.hid hx1; clear hx0 hx1)
        refine (replay_len _ _ _ _ _ (swapE_len es n).symm hsw.out (by rw [swapE_len]; omega)).mono ?_
        rintro e w9 ⟨d0, d1, d2, d3, d4, d5, d6, d7, hd, rfl, hb9⟩
        rw [swap_ok H0.out n hn]
        obtain ⟨L1, L2⟩ := swap_law H0.out hn HX0.out HX1.out hd HY.out
        have hgw : w.heap.size ≤ g := by omega
        have hsz9 := hb9.size
        have g9 : Below w.heap.size w w9 := grow_step (grow_set (grow_set (grow_set (grow_set g8 hgw _) hgw _) hgw _) hgw _) hb9
        have B9 := (((((BB.below hb7).far hgb _).far hgb _).far hgb _).far hgb _).below hb9
        clear p1 p2 p3 p4 fz k0 k1 k2 k3 hsw hd
        obtain ⟨b', o', e', hb', p1, p2⟩ := (HA.out.below g9) n (by omega)
        injection e' with e'; injection e' with q1 q2; subst q1; subst q2
        obtain ⟨b', o', e', _, p3, p4⟩ := (HA.out.below g9) (n + 1) hn
        injection e' with e'; injection e' with q1 q2; subst q1; subst q2
        rw [HX0.out] at p1 p2
        rw [HX1.out] at p3 p4
        simp only at p1 p2 p3 p4
        have cB := B9.cell; have lB := B9.lt
        have rq := fun w => run_eq8_eql d0 d1 d2 d3 d4 d5 d6 d7 y0 y1 y2 y3 y4 y5 y6 y7 w
        have rg := fun o p w => run_eq8_guard d0 d1 d2 d3 d4 d5 d6 d7 y0 y1 y2 y3 y4 y5 y6 y7 .eql o p w
        by_cases hx : x0 = x1
        · have L := L2 hx
          clear L1 L2
          subst hx
          have eq := fun w => ev_eql x0 m0 x0 m1 w
          have eg := fun o p w => ev_guard x0 m0 x0 m1 o p w
          cases hm : (m0 == m1)
          · rw [hm] at L
            go_wp2_with fail
            go_quiet (fail)
            go_wp2_with fail
            go_quiet (fail)
            go_wp2_with fail
            go_ret
            exact ⟨rfl, (by repeat (first | (with_reducible exact grow_refl _) | (with_reducible assumption) | (with_reducible refine grow_alloc ?_ _) | (with_reducible refine grow_set ?_ (by first | exact Nat.le_refl _ | (simp; done) | (simp; omega) | omega) _) | (with_reducible refine grow_drewN ?_ _) | (with_reducible refine grow_drew ?_) | (with_reducible refine grow_step ?_ (by assumption)) | (with_reducible refine grow_base ?_ (by assumption))))⟩
          · rw [hm] at L
            go_wp2_with fail
            go_quiet (fail)
            go_wp2_with fail
            go_quiet (fail)
            go_wp2_with fail
            go_ret
            exact ⟨rfl, (by repeat (first | (with_reducible exact grow_refl _) | (with_reducible assumption) | (with_reducible refine grow_alloc ?_ _) | (with_reducible refine grow_set ?_ (by first | exact Nat.le_refl _ | (simp; done) | (simp; omega) | omega) _) | (with_reducible refine grow_drewN ?_ _) | (with_reducible refine grow_drew ?_) | (with_reducible refine grow_step ?_ (by assumption)) | (with_reducible refine grow_base ?_ (by assumption))))⟩
        · have L := L1 hx
          clear L1 L2
          have hx' : (x0 != x1) = true := by simpa using hx
          go_wp2_with fail
          go_quiet (fail)
          go_wp2_with fail
          go_ret
          exact ⟨rfl, (by repeat (first | (with_reducible exact grow_refl _) | (with_reducible assumption) | (with_reducible refine grow_alloc ?_ _) | (with_reducible refine grow_set ?_ (by first | exact Nat.le_refl _ | (simp; done) | (simp; omega) | omega) _) | (with_reducible refine grow_drewN ?_ _) | (with_reducible refine grow_drew ?_) | (with_reducible refine grow_step ?_ (by assumption)) | (with_reducible refine grow_base ?_ (by assumption))))⟩
      · by_cases hi0 : i < 0
        · go_wp2_with fail
          go_ret
          exact ⟨rfl, (by repeat (first | (with_reducible exact grow_refl _) | (with_reducible assumption) | (with_reducible refine grow_alloc ?_ _) | (with_reducible refine grow_set ?_ (by first | exact Nat.le_refl _ | (simp; done) | (simp; omega) | omega) _) | (with_reducible refine grow_drewN ?_ _) | (with_reducible refine grow_drew ?_) | (with_reducible refine grow_step ?_ (by assumption)) | (with_reducible refine grow_base ?_ (by assumption))))⟩
        · have hi1 : (es.length : Int) - 1 ≤ i := by omega
          go_wp2_with fail
          go_ret
          exact ⟨rfl, (by repeat (first | (with_reducible exact grow_refl _) | (with_reducible assumption) | (with_reducible refine grow_alloc ?_ _) | (with_reducible refine grow_set ?_ (by first | exact Nat.le_refl _ | (simp; done) | (simp; omega) | omega) _) | (with_reducible refine grow_drewN ?_ _) | (with_reducible refine grow_drew ?_) | (with_reducible refine grow_step ?_ (by assumption)) | (with_reducible refine grow_base ?_ (by assumption))))⟩
    · have t : (evE ws == 0) = false := by simpa using hw0
      clear hw0
      have g7 : Below w.heap.size w (w5.alloc (.cells #[.int .i64 z0, .int .i64 z1, .int .i64 z2, .int .i64 z3, .int .i64 z4, .int .i64 z5, .int .i64 z6, .int .i64 z7] 50)) := grow_alloc g6 _
      by_cases hi : 0 ≤ i ∧ i < (es.length : Int) - 1
      · obtain ⟨n, rfl⟩ : ∃ n : Nat, i = n := ⟨i.toNat, by omega⟩
        have hn : n + 1 < es.length := by omega
        have g7s := g7.size
        have BB := B5.alloc_ (.cells #[.int .i64 z0, .int .i64 z1, .int .i64 z2, .int .i64 z3, .int .i64 z4, .int .i64 z5, .int .i64 z6, .int .i64 z7] 50)
        have lBB := BB.lt
        obtain ⟨bA, oA, rfl, hbA, _, _⟩ := HA.out n (by omega)
        have tok2 : True := trivial
        go_wp2_with (at_builtin; have _t := tok2; clear tok2; refine app_cells rfl _ _ 46 48 rfl Try.underlying46 infoEv (by decide) (by decide) _ none 0 0 [] rfl (OwnC.start _ _ _ _) (some ⟨bA, oA, none⟩) c es.length (evCells es) rfl (HA.out.below (by repeat (first | (with_reducible exact grow_refl _) | (with_reducible assumption) | (with_reducible refine grow_alloc ?_ _) | (with_reducible refine grow_set ?_ (by first | exact Nat.le_refl _ | (simp; done) | (simp; omega) | omega) _) | (with_reducible refine grow_drewN ?_ _) | (with_reducible refine grow_drew ?_) | (with_reducible refine grow_step ?_ (by assumption)) | (with_reducible refine grow_base ?_ (by assumption))))).cells (evCells_len es) (evCells_one es) (by omega) (by omega) (Nat.le_refl _) ?_; intro A3 c3 k3 w7 hk3 ho3 hb7; (obtain ⟨g, rfl, hg, hgl⟩ := own_at ho3 (by have := hk3.out; omega)); (obtain rfl : k3 = es.length := by rw [hk3.out]; simp); (have g8 : Below w.heap.size w w7 := grow_step (by repeat (first | (with_reducible exact grow_refl _) | (with_reducible assumption) | (with_reducible refine grow_alloc ?_ _) | (with_reducible refine grow_set ?_ (by first | exact Nat.le_refl _ | (simp; done) | (simp; omega) | omega) _) | (with_reducible refine grow_drewN ?_ _) | (with_reducible refine grow_drew ?_) | (with_reducible refine grow_step ?_ (by assumption)) | (with_reducible refine grow_base ?_ (by assumption)))) hb7); (obtain ⟨b', o', e', _, p1, p2⟩ := (HA.out.below g8) n (by omega)); injection e' with e'; injection e' with q1 q2; subst q1; subst q2; (obtain ⟨b', o', e', _, p3, p4⟩ := (HA.out.below g8) (n + 1) hn); injection e' with e'; injection e' with q1 q2; subst q1; subst q2; (obtain ⟨⟨x0, m0⟩, hx0⟩ : ∃ x, es.getD n (0, 0) = x := ⟨_, rfl⟩); (obtain ⟨⟨x1, m1⟩, hx1⟩ : ∃ x, es.getD (n + 1) (0, 0) = x := ⟨_, rfl⟩); rw [hx0] at p1 p2; rw [hx1] at p3 p4; simp only at p1 p2 p3 p4; have hsw := Lib.hid (own_swap ho3 n hn hx0 hx1); (obtain ⟨fz, k0, k1, k2, k3⟩ := own_facts ho3 n hn hx0 hx1); (have hA1 : bA ≠ g := by omega); have hA2 := hA1.symm; (have hgb : w2.heap.size ≠ g := (by omega)); have HX0 := Lib.hid hx0; have HX1 := Lib.hid hx1; clear hx0 hx1)
        refine (replay_len _ _ _ _ _ (swapE_len es n).symm hsw.out (by rw [swapE_len]; omega)).mono ?_
        rintro e w9 ⟨d0, d1, d2, d3, d4, d5, d6, d7, hd, rfl, hb9⟩
        rw [swap_ok H0.out n hn]
        obtain ⟨L1, L2⟩ := swap_law H0.out hn HX0.out HX1.out hd HY.out
        have hgw : w.heap.size ≤ g := by omega
        have hsz9 := hb9.size
        have g9 : Below w.heap.size w w9 := grow_step (grow_set (grow_set (grow_set (grow_set g8 hgw _) hgw _) hgw _) hgw _) hb9
        have B9 := (((((BB.below hb7).far hgb _).far hgb _).far hgb _).far hgb _).below hb9
        clear p1 p2 p3 p4 fz k0 k1 k2 k3 hsw hd
        obtain ⟨b', o', e', hb', p1, p2⟩ := (HA.out.below g9) n (by omega)
        injection e' with e'; injection e' with q1 q2; subst q1; subst q2
        obtain ⟨b', o', e', _, p3, p4⟩ := (HA.out.below g9) (n + 1) hn
        injection e' with e'; injection e' with q1 q2; subst q1; subst q2
        rw [HX0.out] at p1 p2
        rw [HX1.out] at p3 p4
        simp only at p1 p2 p3 p4
        have cB := B9.cell; have lB := B9.lt
        have rq := fun w => run_eq8_eql d0 d1 d2 d3 d4 d5 d6 d7 y0 y1 y2 y3 y4 y5 y6 y7 w
        have rg := fun o p w => run_eq8_guard d0 d1 d2 d3 d4 d5 d6 d7 y0 y1 y2 y3 y4 y5 y6 y7 .eql o p w
        by_cases hx : x0 = x1
        · have L := L2 hx
          clear L1 L2
          subst hx
          have eq := fun w => ev_eql x0 m0 x0 m1 w
          have eg := fun o p w => ev_guard x0 m0 x0 m1 o p w
          cases hm : (m0 == m1)
          · rw [hm] at L
            go_wp2_with fail
            go_quiet (fail)
            go_wp2_with fail
            go_quiet (fail)
            go_wp2_with fail
            go_ret
            exact ⟨rfl, (by repeat (first | (with_reducible exact grow_refl _) | (with_reducible assumption) | (with_reducible refine grow_alloc ?_ _) | (with_reducible refine grow_set ?_ (by first | exact Nat.le_refl _ | (simp; done) | (simp; omega) | omega) _) | (with_reducible refine grow_drewN ?_ _) | (with_reducible refine grow_drew ?_) | (with_reducible refine grow_step ?_ (by assumption)) | (with_reducible refine grow_base ?_ (by assumption))))⟩
          · rw [hm] at L
            go_wp2_with fail
            go_quiet (fail)
            go_wp2_with fail
            go_quiet (fail)
            go_wp2_with fail
            go_ret
            exact ⟨rfl, (by repeat (first | (with_reducible exact grow_refl _) | (with_reducible assumption) | (with_reducible refine grow_alloc ?_ _) | (with_reducible refine grow_set ?_ (by first | exact Nat.le_refl _ | (simp; done) | (simp; omega) | omega) _) | (with_reducible refine grow_drewN ?_ _) | (with_reducible refine grow_drew ?_) | (with_reducible refine grow_step ?_ (by assumption)) | (with_reducible refine grow_base ?_ (by assumption))))⟩
        · have L := L1 hx
          clear L1 L2
          have hx' : (x0 != x1) = true := by simpa using hx
          go_wp2_with fail
          go_quiet (fail)
          go_wp2_with fail
          go_ret
          exact ⟨rfl, (by repeat (first | (with_reducible exact grow_refl _) | (with_reducible assumption) | (with_reducible refine grow_alloc ?_ _) | (with_reducible refine grow_set ?_ (by first | exact Nat.le_refl _ | (simp; done) | (simp; omega) | omega) _) | (with_reducible refine grow_drewN ?_ _) | (with_reducible refine grow_drew ?_) | (with_reducible refine grow_step ?_ (by assumption)) | (with_reducible refine grow_base ?_ (by assumption))))⟩
      · by_cases hi0 : i < 0
        · go_wp2_with fail
          go_ret
          exact ⟨rfl, (by repeat (first | (with_reducible exact grow_refl _) | (with_reducible assumption) | (with_reducible refine grow_alloc ?_ _) | (with_reducible refine grow_set ?_ (by first | exact Nat.le_refl _ | (simp; done) | (simp; omega) | omega) _) | (with_reducible refine grow_drewN ?_ _) | (with_reducible refine grow_drew ?_) | (with_reducible refine grow_step ?_ (by assumption)) | (with_reducible refine grow_base ?_ (by assumption))))⟩
        · have hi1 : (es.length : Int) - 1 ≤ i := by omega
          go_wp2_with fail
          go_ret
          exact ⟨rfl, (by repeat (first | (with_reducible exact grow_refl _) | (with_reducible assumption) | (with_reducible refine grow_alloc ?_ _) | (with_reducible refine grow_set ?_ (by first | exact Nat.le_refl _ | (simp; done) | (simp; omega) | omega) _) | (with_reducible refine grow_drewN ?_ _) | (with_reducible refine grow_drew ?_) | (with_reducible refine grow_step ?_ (by assumption)) | (with_reducible refine grow_base ?_ (by assumption))))⟩
  · have t : (evE es != 0) = true := by simp [h0]
    clear h0
    go_enter Try.func8, Try.ntmps8
    go_wp2_with fail
    refine (replay_any _ 2 [(1, 5), (1, 5)] _ (evs2 w x m) (by simp)).mono ?_
    rintro e w1 ⟨y0, y1, y2, y3, y4, y5, y6, y7, hy, rfl, hb1⟩
    rw [F0.out.1] at hy
    simp only [List.cons.injEq, and_true] at hy
    obtain ⟨rfl, rfl, rfl, rfl, rfl, rfl, rfl, rfl⟩ := hy
    rw [F0.out.2]
    go_wp2_with fail
    refine (replay_any A c es _ (HA.out.below (by repeat (first | (with_reducible exact grow_refl _) | (with_reducible assumption) | (with_reducible refine grow_alloc ?_ _) | (with_reducible refine grow_set ?_ (by first | exact Nat.le_refl _ | (simp; done) | (simp; omega) | omega) _) | (with_reducible refine grow_drewN ?_ _) | (with_reducible refine grow_drew ?_) | (with_reducible refine grow_step ?_ (by assumption)) | (with_reducible refine grow_base ?_ (by assumption))))) (by omega)).mono ?_
    rintro e w2 ⟨y0, y1, y2, y3, y4, y5, y6, y7, hy, rfl, hb2⟩
    have HY := Lib.hid hy
    clear hy
    go_wp2_with fail
    go_ret
    exact ⟨rfl, (by repeat (first | (with_reducible exact grow_refl _) | (with_reducible assumption) | (with_reducible refine grow_alloc ?_ _) | (with_reducible refine grow_set ?_ (by first | exact Nat.le_refl _ | (simp; done) | (simp; omega) | omega) _) | (with_reducible refine grow_drewN ?_ _) | (with_reducible refine grow_drew ?_) | (with_reducible refine grow_step ?_ (by assumption)) | (with_reducible refine grow_base ?_ (by assumption))))⟩

set_option maxRecDepth 100000 in
theorem eventOrder_walks (H : Type) (enc : TypeId × Value → H) : Walks enc Try.prog 8 Try.f8 := by
  intro W base args ds p hval hA hlt hsz hsh
  have hsz0 := hsz
  rw [Try.params8] at hA hval
  obtain ⟨v0, vs0, d0, ds0, p0, q0, hargs, rfl, rfl, h0, r0⟩ := trodAll_cons hA
  obtain ⟨v1, vs1, d1, ds1, p1, q1, rfl, rfl, rfl, h1, r1⟩ := trodAll_cons r0
  obtain ⟨v2, vs2, d2, ds2, p2, q2, rfl, rfl, rfl, h2, r2⟩ := trodAll_cons r1
  obtain ⟨rfl, rfl, rfl⟩ := trodAll_nil r2
  obtain rfl : args = #[v0, v1, v2] := by cases args; simp_all
  obtain ⟨A0, a0, c0, rfl, w0, z0, y0⟩ := op_evs (hval 0 46 v0 rfl rfl) h0 (fun x hx => hlt x (by simp [hx])) (w_each hsz 0 46 _ (by rw [Try.params8]; rfl) rfl)
  obtain ⟨a1, rfl, w1⟩ := op_int (hval 1 3 v1 rfl rfl) h1
  obtain ⟨a2, b2, rfl, w2, u2⟩ := op_ev (hval 2 48 v2 rfl rfl)
  exact eventOrder_walk W A0 a0 c0 a1 a2 b2 w0 z0 y0 w1 w2 u2

set_option maxRecDepth 100000 in
theorem eventOrder_lifted (os : Os) (started : os.Started) (H : Type) (enc : TypeId × Value → H) :
    ReturnsInHanded {} Try.checked os 8 .any (Rows.eventOrderSpec.pre6 enc Try.prog Try.f8 Rows.eventOrderRow.domain false) (Rows.eventOrderSpec.post enc Try.prog Try.f8 false true false false) :=
  returns_of_walk (C := Try.checked) (s := Rows.eventOrderSpec) own started (by kernel_rfl) Try.func8
    (ChangeSpec.witness6 (enc := enc) (C := Try.checked) false ⟨#[], #[.slice none 0 0, .int .i64 0, .agg #[.int .i64 0, .int .i64 0]], []⟩ 8 (by kernel_rfl) (by kernel_rfl) (by kernel_rfl) (by kernel_rfl))
    laidOut (by kernel_rfl) (by kernel_rfl) Try.underlying4 rfl (fun ds h => by match ds, h with | [_, _, _], _ => rfl) (eventOrder_walks H enc)

theorem eventOrder_holds : Rows.EventOrderSaid :=
  OpenClaim.holds_of_wide 8 Try.f8 rfl rfl rfl rfl rfl rfl rfl ⟨rfl, rfl, rfl, rfl, rfl⟩ rfl rfl rfl rfl rfl (by kernel_rfl) Try.func8 (by kernel_rfl)
    (of_decide_eq_true (by kernel_rfl)) (by unfold Func.isWrapper; rw [if_neg (of_decide_eq_false (by kernel_rfl))]; exact ⟨rfl, rfl⟩)
    (fun os started H enc _ => eventOrder_lifted os started H enc)

end Go.Proofs.Ytfklbifgjpocnaa
