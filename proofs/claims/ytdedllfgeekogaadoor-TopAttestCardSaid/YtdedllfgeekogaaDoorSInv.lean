/- Slots in plain words: just one is good; and what is put, good, started comes to, said in one. -/
import Derived.Test.YtdedllfgeekogaaDoorRows
import Derived.Test.YtdedllfgeekogaaDoorBase
import Derived.Test.YtdedllfgeekogaaDoorImg
import Derived.Test.YtdedllfgeekogaaDoorRefI
import Derived.Test.YtdedllfgeekogaaDoorFoot
import Derived.Test.YtdedllfgeekogaaDoorSlot
import Derived.Test.YtdedllfgeekogaaDoorRSlot
import Derived.Test.YtdedllfgeekogaaDoorSgEq
import Derived.WalkKit
import Derived.WalkSpells
import Derived.DeepKeys
import Derived.WalkArith
import Derived.Lib.Hide
import Derived.Deep.QuietTactic
import Derived.BigQuiet
import Derived.RegionTactic
import Derived.BigRegion
namespace Go.Proofs.YtdedllfgeekogaaDoor
open Go.RowKit
set_option maxRecDepth 100000
set_option linter.unusedVariables false

def SltOk (z : Slt) : Prop := (z.g = true → z.f = true) ∧ 0 ≤ z.t ∧ z.t ≤ 3 ∧ z.n.size ≤ 140737488351232 ∧ z.c.size ≤ 140737488351232 ∧ I64 z.v ∧ I64 z.p ∧ I64 z.a
structure Inv (s : Slts) : Prop where
  x : SltOk s.x
  y : SltOk s.y
  one : s.x.g = !s.y.g
  run : (s.at_ s.r).f = true
theorem noSlt_ok : SltOk noSlt := ⟨(fun h => by cases h), by decide, by decide, by decide, by decide, ⟨by decide, by decide⟩, ⟨by decide, by decide⟩, ⟨by decide, by decide⟩⟩
theorem Inv.first {n : ByteArray} {v : Int} {c : ByteArray} {p a : Int} (hn : n.size ≤ 140737488351232) (hc : c.size ≤ 140737488351232) (iv : I64 v) (ip : I64 p) (ia : I64 a) : Inv ⟨⟨n, v, c, p, a, true, 0, true⟩, noSlt, false⟩ :=
  ⟨⟨(fun _ => rfl), (by show (0 : Int) ≤ 0; omega), (by show (0 : Int) ≤ 3; omega), hn, hc, iv, ip, ia⟩, noSlt_ok, rfl, rfl⟩
theorem Inv.at_ {s : Slts} (h : Inv s) (r : Bool) : SltOk (s.at_ r) := by cases r; exact h.x; exact h.y
theorem Inv.put {s : Slts} (h : Inv s) (hg : (s.at_ s.r).g = true) {n : ByteArray} {v : Int} {c : ByteArray} {p a : Int} (hn : n.size ≤ 140737488351232) (hc : c.size ≤ 140737488351232) (iv : I64 v) (ip : I64 p) (ia : I64 a) : Inv (s.put n v c p a) := by
  obtain ⟨x, y, r⟩ := s
  have ok : SltOk ⟨n, v, c, p, a, true, 3, false⟩ := ⟨(fun h => by cases h), (by show (0 : Int) ≤ 3; omega), (by show (3 : Int) ≤ 3; omega), hn, hc, iv, ip, ia⟩
  obtain ⟨h1, h2, h3, h4⟩ := h
  cases r
  · exact ⟨h1, ok, hg, h4⟩
  · exact ⟨ok, h2, by have : y.g = true := hg; show false = !y.g; rw [this]; rfl, h4⟩
theorem Inv.good {s : Slts} (h : Inv s) : Inv s.good := by
  obtain ⟨x, y, r⟩ := s
  obtain ⟨h1, h2, h3, h4⟩ := h
  cases r
  · exact ⟨⟨(fun _ => h4), (by show (0 : Int) ≤ 0; omega), (by show (0 : Int) ≤ 3; omega), h1.2.2.2⟩, noSlt_ok, rfl, h4⟩
  · exact ⟨noSlt_ok, ⟨(fun _ => h4), (by show (0 : Int) ≤ 0; omega), (by show (0 : Int) ≤ 3; omega), h2.2.2.2⟩, rfl, h4⟩
theorem tried_g (z : Slt) : z.tried.g = z.g := by unfold Slt.tried; split <;> rfl
theorem tried_f (z : Slt) : z.tried.f = z.f := by unfold Slt.tried; split <;> rfl
theorem safe_good {s : Slts} (h : Inv s) : (s.at_ s.safe).g = true ∧ (s.at_ (!s.safe)).g = false := by
  obtain ⟨x, y, r⟩ := s
  have h3 : x.g = !y.g := h.one
  cases r <;> cases hx : x.g <;> cases hy : y.g <;> simp_all [Slts.safe, Slts.at_]
/-- What is picked is good, or on trial. -/
theorem pick_ok {s : Slts} (h : Inv s) : ((s.at_ s.pick).g = true ∧ s.pick = s.safe) ∨ ((s.at_ s.pick).g = false ∧ (s.at_ s.pick).f = true ∧ 0 < (s.at_ s.pick).t ∧ s.pick = !s.safe) := by
  obtain ⟨h1, h2⟩ := safe_good h
  unfold Slts.pick
  split
  · rename_i ht
    right
    unfold Slt.trial at ht
    simp only [Bool.and_eq_true, decide_eq_true_eq] at ht
    exact ⟨h2, ht.1.1, ht.2, rfl⟩
  · left; exact ⟨h1, rfl⟩
theorem Inv.start {s : Slts} (h : Inv s) (P : Bool) (hP : s.pick = P) : Inv (Slts.set_ ⟨s.x, s.y, P⟩ P (s.at_ P).tried) := by
  have hk := pick_ok h
  rw [hP] at hk
  have ok : SltOk (s.at_ P).tried := by
    obtain ⟨a1, a2, a3, a4⟩ := h.at_ P
    unfold Slt.tried
    split
    · exact ⟨a1, a2, a3, a4⟩
    · rename_i hg
      rcases hk with ⟨hk, _⟩ | ⟨_, _, hk, _⟩
      · exact absurd hk hg
      · exact ⟨(fun h => absurd h hg), (by show 0 ≤ (s.at_ P).t - 1; omega), (by show (s.at_ P).t - 1 ≤ 3; omega), a4⟩
  have hf : (s.at_ P).f = true := by
    rcases hk with ⟨hk, _⟩ | ⟨_, hk, _⟩
    · exact (h.at_ P).1 hk
    · exact hk
  obtain ⟨x, y, r⟩ := s
  obtain ⟨h1, h2, h3, _⟩ := h
  cases P
  · exact ⟨ok, h2, by show (x.tried).g = !y.g; rw [tried_g]; exact h3, by show (x.tried).f = true; rw [tried_f]; exact hf⟩
  · exact ⟨h1, ok, by show x.g = !(y.tried).g; rw [tried_g]; exact h3, by show (y.tried).f = true; rw [tried_f]; exact hf⟩

theorem slLits (n : ByteArray) (v : Int) (c : ByteArray) (p a : Int) (f : Bool) (t : Int) (g : Bool) (hn : n.size ≤ 140737488351232) (hc : c.size ≤ 140737488351232) (iv : I64 v) (ip : I64 p) (ia : I64 a) (it : I64 t) : Tryd.prog.keyLits 4 145 [.string n, .int .i64 v, .string c, .int .i64 p, .int .i64 a, .bool f, .int .i64 t, .bool g] = some [.string n.data.toList, .int .i64 v, .string c.data.toList, .int .i64 p, .int .i64 a, .bool f, .int .i64 t, .bool g] := by
  have c0 : Program.cellsOf Tryd.prog 145 = 8 := by kernel_rfl
  have c1 : Program.cellsOf Tryd.prog 34 = 5 := by kernel_rfl
  have c2 : Program.cellsOf Tryd.prog 24 = 3 := by kernel_rfl
  have c3 : Program.cellsOf Tryd.prog 32 = 2 := by kernel_rfl
  have c4 : Program.cellsOf Tryd.prog 3 = 1 := by kernel_rfl
  have c5 : Program.cellsOf Tryd.prog 9 = 1 := by kernel_rfl
  have c6 : Program.cellsOf Tryd.prog 4 = 1 := by kernel_rfl
  have w : ∀ x, I64 x → (Lit.int .i64 x).wf = true := fun x hx => WalkArith.wf_i64 hx
  have m1 : n.size ≤ maxLen := by unfold maxLen; omega
  have m2 : c.size ≤ maxLen := by unfold maxLen; omega
  simp [Program.keyLits, Tryd.underlying145, Tryd.underlying34, Tryd.underlying24, Tryd.underlying32, Tryd.underlying3, Tryd.underlying9, Tryd.underlying4, c0, c1, c2, c3, c4, c5, c6, w v iv, w p ip, w a ia, w t it, m1, m2]
  repeat (rw [if_pos (by decide)])
  rfl
theorem eqSl_in (n : ByteArray) (v : Int) (c : ByteArray) (p a : Int) (f : Bool) (t : Int) (g : Bool) (hn : n.size ≤ 140737488351232) (hc : c.size ≤ 140737488351232) (iv : I64 v) (ip : I64 p) (ia : I64 a) (it : I64 t) (w : World) : (Op.equalIn 10000 145 (.agg #[.string n, .int .i64 v, .string c, .int .i64 p, .int .i64 a, .bool f, .int .i64 t, .bool g]) (.agg #[.string n, .int .i64 v, .string c, .int .i64 p, .int .i64 a, .bool f, .int .i64 t, .bool g])).run Tryd.prog w = .ok true w := by
  have k := slLits n v c p a f t g hn hc iv ip ia it
  have fm : Value.formed Tryd.prog 145 (.agg #[.string n, .int .i64 v, .string c, .int .i64 p, .int .i64 a, .bool f, .int .i64 t, .bool g]) = true := by
    have c1 : Program.cellsOf Tryd.prog 145 = 8 := by kernel_rfl
    simp [Value.formed, Tryd.underlying145, c1]
  obtain ⟨r, hr, hi⟩ := run_equalIn_deep (P := Tryd.prog) 9996 4 145 (by kernel_rfl) w 4 4 (.agg #[.string n, .int .i64 v, .string c, .int .i64 p, .int .i64 a, .bool f, .int .i64 t, .bool g]) (.agg #[.string n, .int .i64 v, .string c, .int .i64 p, .int .i64 a, .bool f, .int .i64 t, .bool g]) _ _ fm fm (by simpa [Value.cells] using k) (by simpa [Value.cells] using k)
  rw [hi.2 rfl] at hr
  exact hr
theorem neSl (n : ByteArray) (v : Int) (c : ByteArray) (p a : Int) (f : Bool) (t : Int) (g : Bool) (hn : n.size ≤ 140737488351232) (hc : c.size ≤ 140737488351232) (iv : I64 v) (ip : I64 p) (ia : I64 a) (it : I64 t) (w : World) : (binOp .neq 145 (.agg #[.string n, .int .i64 v, .string c, .int .i64 p, .int .i64 a, .bool f, .int .i64 t, .bool g]) (.agg #[.string n, .int .i64 v, .string c, .int .i64 p, .int .i64 a, .bool f, .int .i64 t, .bool g])).run Tryd.prog w = .ok (.bool false) w := by
  rw [run_neq_struct, eqSl_in n v c p a f t g hn hc iv ip ia it]; rfl
theorem guardSl (x0 x1 x2 x3 x4 x5 x6 x7 y0 y1 y2 y3 y4 y5 y6 y7 : Value) (op : BinOp) (o p : Operand) (w : World) : (eqGuard op 145 o p (.agg #[x0, x1, x2, x3, x4, x5, x6, x7]) (.agg #[y0, y1, y2, y3, y4, y5, y6, y7])).run Tryd.prog w = .ok () w := by
  cases op <;> kernel_rfl

def putE (s : Slts) (n : ByteArray) (v : Int) (c : ByteArray) : Int := if imgE n v c = 0 then (if (s.at_ s.r).g then 0 else 6) else imgE n v c
def putS (s : Slts) (n : ByteArray) (v : Int) (c : ByteArray) (p a : Int) : Slts := if imgE n v c = 0 then (if (s.at_ s.r).g then s.put n v c p a else s) else s
def goodE (s : Slts) : Int := if (s.at_ s.r).g then 7 else 0
def goodS (s : Slts) : Slts := if (s.at_ s.r).g then s else s.good
def startS (s : Slts) : Slts := Slts.set_ ⟨s.x, s.y, s.pick⟩ s.pick (s.at_ s.pick).tried
theorem Inv.putS {s : Slts} (h : Inv s) {n : ByteArray} {v : Int} {c : ByteArray} {p a : Int} (hn : n.size ≤ 140737488351232) (hc : c.size ≤ 140737488351232) (iv : I64 v) (ip : I64 p) (ia : I64 a) : Inv (putS s n v c p a) := by
  unfold Go.Proofs.YtdedllfgeekogaaDoor.putS
  split
  · split
    · rename_i hg; exact h.put hg hn hc iv ip ia
    · exact h
  · exact h
theorem Inv.goodS {s : Slts} (h : Inv s) : Inv (goodS s) := by
  unfold Go.Proofs.YtdedllfgeekogaaDoor.goodS
  split
  · exact h
  · exact h.good
theorem Inv.startS {s : Slts} (h : Inv s) : Inv (startS s) := h.start _ rfl
theorem putE_bd (s : Slts) (n : ByteArray) (v : Int) (c : ByteArray) : I64 (putE s n v c) := by
  unfold putE
  split
  · split <;> exact ⟨by decide, by decide⟩
  · exact imgE_bd _ _ _
theorem goodE_bd (s : Slts) : I64 (goodE s) := by unfold goodE; split <;> exact ⟨by decide, by decide⟩
theorem putC (g : Nat) (s : Slts) (n : ByteArray) (v : Int) (c : ByteArray) (p a : Int) (w : World) (hB : Box w g 148 s.cs) (hn : n.size ≤ 140737488351232) (hc : c.size ≤ 140737488351232) :
    Calls Tryd.prog 94 #[.pointer (some ⟨g, 0, none⟩), .agg #[.string n, .int .i64 v, .string c, .int .i64 p, .int .i64 a]] w fun e w' => e = .returned (errV (putE s n v c)) ∧ Box w' g 148 (putS s n v c p a).cs ∧ But (fun k => k = g) w w' := by
  unfold putE Go.Proofs.YtdedllfgeekogaaDoor.putS
  by_cases hi : imgE n v c = 0
  · rw [if_pos hi, if_pos hi]
    cases hg : (s.at_ s.r).g
    · exact (put_no g s n v c p a w hB (by omega) (by omega) hi hg).mono fun e w' h => ⟨h.1, hB.below h.2, below_but h.2 _⟩
    · exact put_yes g s n v c p a w hB (by omega) (by omega) hi hg
  · rw [if_neg hi, if_neg hi]
    exact (put_bad g n v c p a w (by omega) (by omega) hi).mono fun e w' h => ⟨h.1, hB.below h.2, below_but h.2 _⟩
theorem goodC (g : Nat) (s : Slts) (w : World) (hB : Box w g 148 s.cs) :
    Calls Tryd.prog 59 #[.pointer (some ⟨g, 0, none⟩)] w fun e w' => e = .returned (errV (goodE s)) ∧ Box w' g 148 (goodS s).cs ∧ But (fun k => k = g) w w' := by
  unfold goodE Go.Proofs.YtdedllfgeekogaaDoor.goodS
  cases hg : (s.at_ s.r).g
  · exact good_yes g s w hB hg
  · exact (good_no g s w hB hg).mono fun e w' h => ⟨h.1, hB.below h.2, below_but h.2 _⟩
theorem startC (g : Nat) (s : Slts) (w : World) (hB : Box w g 148 s.cs) (h : Inv s) :
    Calls Tryd.prog 57 #[.pointer (some ⟨g, 0, none⟩)] w fun e w' => e = .returned (.agg (s.at_ s.pick).im) ∧ Box w' g 148 (startS s).cs ∧ But (fun k => k = g) w w' :=
  start_at g s _ w hB rfl ⟨(h.at_ _).2.1, by have := (h.at_ s.pick).2.2.1; omega⟩

def atE (i : Int) : Int := if i = 0 ∨ i = 1 then 0 else 1
set_option maxHeartbeats 1000000 in
theorem at_no (g : Nat) (i : Int) (w : World) (h0 : i ≠ 0) (h1 : i ≠ 1) :
    Calls Tryd.prog 109 #[.pointer (some ⟨g, 0, none⟩), .int .i64 i] w fun e w' => e = .returned (.tuple #[.agg noSlt.cs, errV 1]) ∧ Below w.heap.size w w' := by
  have t0 : (i != 0) = true := by simp [h0]
  have t1 : (i != 1) = true := by simp [h1]
  have Z := Box.new w 145 noSlt.cs
  simp only [noSlt, Slt.cs] at Z ⊢
  go_enter Tryd.func109, Tryd.ntmps109
  go_wp2_with fail
  exact bodyPost_ret (v := .tuple #[.agg #[.string ⟨#[]⟩, .int .i64 0, .string ⟨#[]⟩, .int .i64 0, .int .i64 0, .bool false, .int .i64 0, .bool false], errV 1]) (ret_cell_tmp Tryd.results109 rfl Z Tryd.underlying145 rfl (by kernel_rfl)) rfl ⟨rfl, (by repeat (first | (with_reducible exact grow_refl _) | (with_reducible assumption) | (with_reducible refine grow_alloc ?_ _) | (with_reducible refine grow_set ?_ (by first | exact Nat.le_refl _ | (simp; done) | (simp; omega) | omega) _) | (with_reducible refine grow_drewN ?_ _) | (with_reducible refine grow_drew ?_) | (with_reducible refine grow_step ?_ (by assumption)) | (with_reducible refine grow_base ?_ (by assumption))))⟩
theorem atC (g : Nat) (s : Slts) (i : Int) (w : World) (hB : Box w g 148 s.cs) :
    Calls Tryd.prog 109 #[.pointer (some ⟨g, 0, none⟩), .int .i64 i] w fun e w' => ∃ z : Slt, e = .returned (.tuple #[.agg z.cs, errV (atE i)]) ∧ Below w.heap.size w w' := by
  by_cases h0 : i = 0
  · subst h0
    exact (at_any g s false w hB).mono fun e w' h => ⟨_, h.1, h.2⟩
  · by_cases h1 : i = 1
    · subst h1
      exact (at_any g s true w hB).mono fun e w' h => ⟨_, h.1, h.2⟩
    · have e1 : atE i = 1 := by unfold atE; rw [if_neg (by omega)]
      rw [e1]
      exact (at_no g i w h0 h1).mono fun e w' h => ⟨_, h.1, h.2⟩

end Go.Proofs.YtdedllfgeekogaaDoor
