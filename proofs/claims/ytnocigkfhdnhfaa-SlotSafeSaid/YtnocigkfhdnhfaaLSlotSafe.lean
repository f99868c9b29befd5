/- SlotSafe: there is always one that is good: whatever is put, started, and good, just one slot is good. -/
import Derived.Test.YtnocigkfhdnhfaaRows
import Derived.Test.YtnocigkfhdnhfaaOpen
import Derived.Test.YtnocigkfhdnhfaaOpI
import Derived.Test.YtnocigkfhdnhfaaImg
import Derived.Test.YtnocigkfhdnhfaaFoot
import Derived.Test.YtnocigkfhdnhfaaSlot
import Derived.Test.YtnocigkfhdnhfaaSlot2
import Derived.Test.YtnocigkfhdnhfaaSgEq
import Derived.WalkKit
import Derived.WalkSpells
import Derived.Lib.Hide
import Derived.Deep.CutRange
import Derived.Deep.DeepCutAuto
namespace Go.Proofs.Ytnocigkfhdnhfaa
open Go.ChangeShapes Go.WideShapes Go.ChangeAt Go.RowKit
set_option linter.unusedVariables false
set_option maxRecDepth 100000

def SltOk (z : Slt) : Prop := (z.g = true → z.f = true) ∧ 0 ≤ z.t ∧ z.t ≤ 3 ∧ z.n.size ≤ 140737488351232 ∧ z.c.size ≤ 140737488351232 ∧ I64 z.v ∧ I64 z.p ∧ I64 z.a
structure Inv (s : Slts) : Prop where
  x : SltOk s.x
  y : SltOk s.y
  one : s.x.g = !s.y.g
  run : (s.at_ s.r).f = true
theorem noSlt_ok : SltOk noSlt := ⟨(fun h => by cases h), by decide, by decide, by decide, by decide, ⟨by decide, by decide⟩, ⟨by decide, by decide⟩, ⟨by decide, by decide⟩⟩
theorem Inv.first {n : ByteArray} {v : Int} {c : ByteArray} {p a : Int} (hn : n.size ≤ 140737488351232) (hc : c.size ≤ 140737488351232) (iv : I64 v) (ip : I64 p) (ia : I64 a) : Inv ⟨⟨n, v, c, p, a, true, 0, true⟩, noSlt, false⟩ :=
  ⟨⟨(fun _ => rfl), (by show (0 : Int) ≤ 0; omega), (by show (0 : Int) ≤ 3; omega), hn, hc, iv, ip, ia⟩, noSlt_ok, rfl, rfl⟩
theorem Inv.at_ {s : Slts} (h : Inv s) (r : Bool) : SltOk (s.at_ r) := by cases r; exact h.x; exact h.y
theorem Inv.put {s : Slts} (h : Inv s) (hg : (s.at_ s.r).g = true) {n : ByteArray} {v : Int} {c : ByteArray} {p a : Int} (hn : n.size ≤ 140737488351232) (hc : c.size ≤ 140737488351232) (iv : I64 v) (ip : I64 p) (ia : I64 a) : Inv (s.put n v c p a) := by
  obtain ⟨x, y, r⟩ := s
  have ok : SltOk ⟨n, v, c, p, a, true, 3, false⟩ := ⟨(fun h => by cases h), (by show (0 : Int) ≤ 3; omega), (by show (3 : Int) ≤ 3; omega), hn, hc, iv, ip, ia⟩
  obtain ⟨h1, h2, h3, h4⟩ := h
  cases r
  · exact ⟨h1, ok, hg, h4⟩
  · exact ⟨ok, h2, by have : y.g = true := hg; show false = !y.g; rw [this]; rfl, h4⟩
theorem Inv.good {s : Slts} (h : Inv s) : Inv s.good := by
  obtain ⟨x, y, r⟩ := s
  obtain ⟨h1, h2, h3, h4⟩ := h
  cases r
  · exact ⟨⟨(fun _ => h4), (by show (0 : Int) ≤ 0; omega), (by show (0 : Int) ≤ 3; omega), h1.2.2.2⟩, noSlt_ok, rfl, h4⟩
  · exact ⟨noSlt_ok, ⟨(fun _ => h4), (by show (0 : Int) ≤ 0; omega), (by show (0 : Int) ≤ 3; omega), h2.2.2.2⟩, rfl, h4⟩
theorem tried_g (z : Slt) : z.tried.g = z.g := by unfold Slt.tried; split <;> rfl
theorem tried_f (z : Slt) : z.tried.f = z.f := by unfold Slt.tried; split <;> rfl
theorem safe_good {s : Slts} (h : Inv s) : (s.at_ s.safe).g = true ∧ (s.at_ (!s.safe)).g = false := by
  obtain ⟨x, y, r⟩ := s
  have h3 : x.g = !y.g := h.one
  cases r <;> cases hx : x.g <;> cases hy : y.g <;> simp_all [Slts.safe, Slts.at_]
/-- What is picked is good, or on trial. -/
theorem pick_ok {s : Slts} (h : Inv s) : ((s.at_ s.pick).g = true ∧ s.pick = s.safe) ∨ ((s.at_ s.pick).g = false ∧ (s.at_ s.pick).f = true ∧ 0 < (s.at_ s.pick).t ∧ s.pick = !s.safe) := by
  obtain ⟨h1, h2⟩ := safe_good h
  unfold Slts.pick
  split
  · rename_i ht
    right
    unfold Slt.trial at ht
    simp only [Bool.and_eq_true, decide_eq_true_eq] at ht
    exact ⟨h2, ht.1.1, ht.2, rfl⟩
  · left; exact ⟨h1, rfl⟩
theorem Inv.start {s : Slts} (h : Inv s) (P : Bool) (hP : s.pick = P) : Inv (Slts.set_ ⟨s.x, s.y, P⟩ P (s.at_ P).tried) := by
  have hk := pick_ok h
  rw [hP] at hk
  have ok : SltOk (s.at_ P).tried := by
    obtain ⟨a1, a2, a3, a4⟩ := h.at_ P
    unfold Slt.tried
    split
    · exact ⟨a1, a2, a3, a4⟩
    · rename_i hg
      rcases hk with ⟨hk, _⟩ | ⟨_, _, hk, _⟩
      · exact absurd hk hg
      · exact ⟨(fun h => absurd h hg), (by show 0 ≤ (s.at_ P).t - 1; omega), (by show (s.at_ P).t - 1 ≤ 3; omega), a4⟩
  have hf : (s.at_ P).f = true := by
    rcases hk with ⟨hk, _⟩ | ⟨_, hk, _⟩
    · exact (h.at_ P).1 hk
    · exact hk
  obtain ⟨x, y, r⟩ := s
  obtain ⟨h1, h2, h3, _⟩ := h
  cases P
  · exact ⟨ok, h2, by show (x.tried).g = !y.g; rw [tried_g]; exact h3, by show (x.tried).f = true; rw [tried_f]; exact hf⟩
  · exact ⟨h1, ok, by show x.g = !(y.tried).g; rw [tried_g]; exact h3, by show (y.tried).f = true; rw [tried_f]; exact hf⟩
/-- How much the other one may still be tried. -/
def Left (s : Slts) (i : Nat) : Prop := (s.at_ (!s.safe)).t + i ≤ 3
theorem Left.zero {s : Slts} (h : Inv s) : Left s 0 := by
  have := (h.at_ (!s.safe)).2.2.1
  unfold Left; omega
theorem start_safe {s : Slts} (h : Inv s) (P : Bool) (hP : s.pick = P) : (Slts.set_ ⟨s.x, s.y, P⟩ P (s.at_ P).tried).safe = s.safe := by
  have hs := safe_good h
  have hs2 := safe_good (h.start P hP)
  obtain ⟨x, y, r⟩ := s
  generalize hq : (Slts.set_ ⟨x, y, P⟩ P ((Slts.mk x y r).at_ P).tried).safe = q at hs2 ⊢
  generalize hz : (Slts.mk x y r).safe = z at hs ⊢
  have e1 : ∀ b, ((Slts.set_ ⟨x, y, P⟩ P ((Slts.mk x y r).at_ P).tried).at_ b).g = ((Slts.mk x y r).at_ b).g := fun b => by
    cases P <;> cases b <;> simp [Slts.set_, Slts.at_, tried_g]
  rw [e1, e1] at hs2
  cases q <;> cases z <;> simp_all

/-! The walk. -/
theorem at0 (g : Nat) (x y : Slt) (r : Bool) (w : World) (hB : Box w g 47 (Slts.mk x y r).cs) :
    Calls Try.prog 10 #[.pointer (some ⟨g, 0, none⟩), .int .i64 0] w fun e w' => e = .returned (.tuple #[.agg #[.string x.n, .int .i64 x.v, .string x.c, .int .i64 x.p, .int .i64 x.a, .bool x.f, .int .i64 x.t, .bool x.g], errV 0]) ∧ Below w.heap.size w w' := at_any g ⟨x, y, r⟩ false w hB
theorem at1 (g : Nat) (x y : Slt) (r : Bool) (w : World) (hB : Box w g 47 (Slts.mk x y r).cs) :
    Calls Try.prog 10 #[.pointer (some ⟨g, 0, none⟩), .int .i64 1] w fun e w' => e = .returned (.tuple #[.agg #[.string y.n, .int .i64 y.v, .string y.c, .int .i64 y.p, .int .i64 y.a, .bool y.f, .int .i64 y.t, .bool y.g], errV 0]) ∧ Below w.heap.size w w' := at_any g ⟨x, y, r⟩ true w hB

def Kept (g : Nat) (w : World) (w' : World) : Prop := ∃ s, Inv s ∧ Box w' g 47 s.cs ∧ But (fun k => k = g) w w'
theorem putI (g : Nat) (s : Slts) (n : ByteArray) (v : Int) (c : ByteArray) (p a : Int) (w : World) (hB : Box w g 47 s.cs) (h : Inv s) (hn : n.size ≤ 140737488351232) (hc : c.size ≤ 140737488351232) (iv : I64 v) (ip : I64 p) (ia : I64 a) :
    Calls Try.prog 6 #[.pointer (some ⟨g, 0, none⟩), .agg #[.string n, .int .i64 v, .string c, .int .i64 p, .int .i64 a]] w fun e w' => ∃ E, e = .returned (errV E) ∧ Kept g w w' := by
  by_cases hi : imgE n v c = 0
  · cases hg : (s.at_ s.r).g
    · exact (put_no g s n v c p a w hB (by omega) (by omega) hi hg).mono fun e w' ⟨he, hb⟩ => ⟨_, he, s, h, hB.below hb, below_but hb _⟩
    · exact (put_yes g s n v c p a w hB (by omega) (by omega) hi hg).mono fun e w' ⟨he, hb, hk⟩ => ⟨_, he, _, h.put hg hn hc iv ip ia, hb, hk⟩
  · exact (put_bad g n v c p a w (by omega) (by omega) hi).mono fun e w' ⟨he, hb⟩ => ⟨_, he, s, h, hB.below hb, below_but hb _⟩
theorem goodI (g : Nat) (s : Slts) (w : World) (hB : Box w g 47 s.cs) (h : Inv s) :
    Calls Try.prog 8 #[.pointer (some ⟨g, 0, none⟩)] w fun e w' => ∃ E, e = .returned (errV E) ∧ Kept g w w' := by
  cases hg : (s.at_ s.r).g
  · exact (good_yes g s w hB hg).mono fun e w' ⟨he, hb, hk⟩ => ⟨_, he, _, h.good, hb, hk⟩
  · exact (good_no g s w hB hg).mono fun e w' ⟨he, hb⟩ => ⟨_, he, s, h, hB.below hb, below_but hb _⟩
theorem startI (g : Nat) (s : Slts) (P : Bool) (w : World) (hB : Box w g 47 s.cs) (h : Inv s) (hP : s.pick = P) :
    Calls Try.prog 9 #[.pointer (some ⟨g, 0, none⟩)] w fun e w' => e = .returned (.agg (s.at_ P).im) ∧ Box w' g 47 (Slts.set_ ⟨s.x, s.y, P⟩ P (s.at_ P).tried).cs ∧ But (fun k => k = g) w w' :=
  start_at g s P w hB hP ⟨(h.at_ P).2.1, by have := (h.at_ P).2.2.1; omega⟩
def LeftT (s : Slts) (i : Nat) : Prop := (s.at_ s.pick).g = false → (s.at_ s.pick).t + i ≤ 3
theorem LeftT.zero {s : Slts} (h : Inv s) : LeftT s 0 := fun _ => by have := (h.at_ s.pick).2.2.1; omega
theorem LeftT.start {s : Slts} (h : Inv s) (P : Bool) (hP : s.pick = P) {i : Nat} (hl : LeftT s i) : LeftT (Slts.set_ ⟨s.x, s.y, P⟩ P (s.at_ P).tried) (i + 1) := by
  intro hg
  have h2 := h.start P hP
  have hs := start_safe h P hP
  have hk2 := pick_ok h2
  rw [hs] at hk2
  have hk := pick_ok h
  rcases hk2 with ⟨hk2, _⟩ | ⟨_, _, _, e2⟩
  · rw [hk2] at hg; cases hg
  rw [e2] at hg ⊢
  have e1 : ∀ b, ((Slts.set_ ⟨s.x, s.y, P⟩ P (s.at_ P).tried).at_ b).g = (s.at_ b).g := fun b => by
    cases P <;> cases b <;> simp [Slts.set_, Slts.at_, tried_g]
  rcases hk with ⟨hk, e⟩ | ⟨hk, _, _, e⟩
  · -- the safe one was picked: the other is no trial, nor is it now
    exfalso
    rw [hP] at e
    subst e
    have ht := h2
    have hx : (Slts.set_ ⟨s.x, s.y, s.safe⟩ s.safe (s.at_ s.safe).tried) = ⟨s.x, s.y, s.safe⟩ := by
      have : (s.at_ s.safe).tried = s.at_ s.safe := by unfold Slt.tried; rw [if_pos (safe_good h).1]
      rw [this]
      cases hz : s.safe <;> simp [Slts.set_, Slts.at_]
    have e3 : (Slts.mk s.x s.y s.safe).pick = s.pick := by
      have hs' : (Slts.mk s.x s.y s.safe).safe = s.safe := by rw [← hx]; exact hs
      unfold Slts.pick
      rw [hs']; rfl
    rw [hx, e3, hP] at e2
    cases hz : s.safe <;> rw [hz] at e2 <;> cases e2
  · rw [hP] at e hk
    subst e
    have hl' := hl (by rw [hP]; exact hk)
    rw [hP] at hl'
    have : ((Slts.set_ ⟨s.x, s.y, !s.safe⟩ (!s.safe) (s.at_ (!s.safe)).tried).at_ (!s.safe)) = (s.at_ (!s.safe)).tried := by
      cases s.safe <;> simp [Slts.set_, Slts.at_]
    rw [this]
    unfold Slt.tried
    rw [if_neg (by rw [hk]; decide)]
    show (s.at_ (!s.safe)).t - 1 + ((i + 1 : Nat) : Int) ≤ 3
    omega

set_option maxHeartbeats 8000000 in
theorem slotSafe_walk (w : World) (n : ByteArray) (v : Int) (c : ByteArray) (p a : Int) (A : Option Addr) (l : List Int) (cl : Nat) (B : Option Addr) (ss : List Sgn) (cb : Nat)
    (iv : I64 v) (hn : n.size ≤ 140737488351232) (hc : c.size ≤ 140737488351232) (ip : I64 p) (ia : I64 a) (hA : IntsAt w A l) (hi : ∀ x ∈ l, I64 x) (hl : l.length * 8 ≤ 140737488351232)
    (hS : SgnsAt w B ss) (hsl : ss.length * 56 ≤ 140737488351232) (hcb : ss.length ≤ cb)
    (hss : ∀ i, i < ss.length → (ss.getD i noSgn).1.size ≤ 140737488351232 ∧ (ss.getD i noSgn).2.2.1.size ≤ 140737488351232 ∧ I64 (ss.getD i noSgn).2.1 ∧ I64 (ss.getD i noSgn).2.2.2.1 ∧ I64 (ss.getD i noSgn).2.2.2.2) :
    Calls Try.prog 3 #[.agg #[.string n, .int .i64 v, .string c, .int .i64 p, .int .i64 a], .slice A l.length cl, .slice B ss.length cb] w fun e w' => e = .returned (.bool true) ∧ Below w.heap.size w w' := by
  have en := fun k w => err_neq k w
  have gn := fun o k w => err_guard_neq o k w
  have HA := Lib.hid hA
  have HS := Lib.hid hS
  have HSS := Lib.hid hss
  have HF0 := Lib.hid (Box.new w 27 #[.string n, .int .i64 v, .string c, .int .i64 p, .int .i64 a])
  clear hA hi hS hss
  have ha1 : imgE ⟨#[97]⟩ 1 ⟨#[]⟩ = 0 := by decide
  have ha2 : imgE ⟨#[97]⟩ 2 ⟨#[]⟩ = 0 := by decide
  have HA1 := Lib.hid ha1
  have HA2 := Lib.hid ha2
  clear ha1 ha2
  go_enter Try.func3, Try.ntmps3
  go_wp2_with fail
  refine (slotNew_yes ⟨#[97]⟩ 1 ⟨#[]⟩ 0 0 _ (by decide) (by decide) HA1.out).mono ?_
  rintro e w1 ⟨g1, rfl, hB1, hg1, hb1⟩
  have HB1 := Lib.hid hB1
  have HF1 := Lib.hid (HF0.out.below hb1)
  have hbw1 : Below w.heap.size w w1 := grow_step (grow_alloc (grow_refl _) _) hb1
  have hgw1 : w.heap.size < g1 := by simp at hg1; omega
  clear hB1 hb1 hg1 HF0
  go_wp2_with fail
  refine (pick_at g1 _ false _ HB1.out rfl).mono ?_
  rintro e w2 ⟨rfl, hb2⟩
  have HB2 := Lib.hid (HB1.out.below hb2)
  have HF2 := Lib.hid (HF1.out.below hb2)
  have hbw2 : Below w.heap.size w w2 := grow_step hbw1 hb2
  simp only [rI]
  clear hb2 HB1 HF1 hbw1
  go_wp2_with fail
  refine (put_yes g1 _ ⟨#[97]⟩ 2 ⟨#[]⟩ 0 0 _ HB2.out (by decide) (by decide) HA2.out rfl).mono ?_
  rintro e w3 ⟨rfl, hB3, hk3⟩
  have HB3 := Lib.hid hB3
  have HF3 := Lib.hid (HF2.out.but hk3 (by intro h; have : w.heap.size = g1 := h; omega))
  have hbw3 : Below w.heap.size w w3 := hbw2.trans (hk3.below hbw2.size (by intro j h; have : j = g1 := h; omega))
  clear hB3 hk3 HB2 HF2 hbw2
  go_wp2_with fail
  refine (pick_at g1 _ true _ HB3.out rfl).mono ?_
  rintro e w4 ⟨rfl, hb4⟩
  have HF4 := Lib.hid (HF3.out.below hb4)
  have hbw4 : Below w.heap.size w w4 := grow_step hbw3 hb4
  have cF := HF4.out.cell
  have lF := HF4.out.lt
  simp only [rI]
  clear hb4 HB3 HF3 hbw3 hgw1
  by_cases h0 : imgE n v c = 0
  rotate_left
  · obtain ⟨E, hE⟩ : ∃ E, imgE n v c = E := ⟨_, rfl⟩
    have HE := Lib.hid hE
    have HN := Lib.hid h0
    rw [hE] at h0
    have t : (E != 0) = true := by simp [h0]
    clear hE h0
    go_wp2_with fail
    refine (slotNew_no n v c p a _ (by omega) (by omega) HN.out).mono ?_
    rintro e w5 ⟨rfl, hb5⟩
    rw [HE.out]
    have HF5 := HF4.out.below hb5
    have cF5 := HF5.cell
    have lF5 := HF5.lt
    have hbw5 : Below w.heap.size w w5 := grow_step hbw4 hb5
    clear cF lF HF5
    go_wp2_with fail
    refine (imgCheck_any n v c _ (by omega) (by omega)).mono ?_
    rintro e w6 ⟨rfl, hb6⟩
    rw [HE.out]
    go_wp2_with fail
    go_ret
    exact ⟨rfl, grow_step hbw5 hb6⟩
  have HI := Lib.hid h0
  clear h0
  go_wp2_with fail
  refine (slotNew_yes n v c p a _ (by omega) (by omega) HI.out).mono ?_
  rintro e w5 ⟨g, rfl, hB5, hg5, hb5⟩
  have HB5 := Lib.hid hB5
  have hbw5 : Below w.heap.size w w5 := grow_step hbw4 hb5
  have hgw : w.heap.size ≤ g := Nat.le_trans hbw4.size hg5
  have HV5 := Lib.hid (Inv.first hn hc iv ip ia)
  clear hB5 hb5 hg5 cF lF hbw4 HF4
  go_wp2_with fail
  go_loopw [11, 12, 13, 14, 15, 16] (fun t i _ _ _ _ wr => ∃ (k q : Nat) (s : Slts), k ≤ l.length ∧ q ≤ ss.length ∧ t = .int .i64 q ∧ i = .int .i64 k ∧ Hid (Inv s) ∧ Hid (Box wr g 47 s.cs) ∧ Below w.heap.size w wr) (fun _ i _ _ _ _ _ => l.length - (intOf i).toNat)
  case atStart => exact ⟨0, 0, _, by omega, by omega, rfl, rfl, HV5, HB5, hbw5⟩
  case round =>
    obtain ⟨k, q, s, hk, hq, rfl, rfl, HV, HB, hbr⟩ := hrel
    by_cases hlt : k < l.length
    · have g0 : (k : Int) < (l.length : Int) := by omega
      by_cases h50 : k < 50
      · have g1 : (k : Int) < 50 := by omega
        obtain ⟨y, hy⟩ : ∃ y, l.getD k 0 = y := ⟨_, rfl⟩
        obtain ⟨b0, off, rfl, _, hcc⟩ := (HA.out.below hbr) k hlt
        rw [hy] at hcc
        clear hy
        by_cases y0 : y = 0
        · subst y0
          by_cases hin : q < ss.length
          · have gq : (q : Int) < (ss.length : Int) := by omega
            obtain ⟨b1, off1, rfl, _, hcs⟩ := (HS.out.below hbr) q hin
            obtain ⟨z1, z2, z3, z4, z5⟩ := HSS.out q hin
            obtain ⟨⟨sn, sv, sc, sp, sa⟩, hz⟩ : ∃ z, ss.getD q noSgn = z := ⟨_, rfl⟩
            rw [hz] at hcs z1 z2 z3 z4 z5
            simp only [sgnCs] at hcs z1 z2 z3 z4 z5
            have e0 := hcs 0 (by decide)
            have e1 := hcs 1 (by decide)
            have e2 := hcs 2 (by decide)
            have e3 := hcs 3 (by decide)
            have e4 := hcs 4 (by decide)
            simp at e0 e1 e2 e3 e4
            clear hz hcs
            go_wp2_with fail
            refine (putI g s sn sv sc sp sa _ HB.out HV.out z1 z2 z3 z4 z5).mono ?_
            rintro e w6 ⟨E, rfl, s', hV, hB, hk6⟩
            clear e0 e1 e2 e3 e4
            have hV0 := hV
            obtain ⟨⟨n0, v0, c0, p0, a0, f0, t0, g0⟩, ⟨n1, v1, c1, p1, a1, f1, t1, g1_⟩, r⟩ := s'
            obtain ⟨⟨f1_, k1, k2, _⟩, ⟨f2_, k3, k4, _⟩, k5, _⟩ := hV
            simp only at f1_ f2_ k1 k2 k3 k4 k5
            have K5 := Lib.hid k5
            have F1 := Lib.hid f1_
            have F2 := Lib.hid f2_
            clear k5 f1_ f2_
            have HB6 := Lib.hid hB
            have HV6 := Lib.hid hV0
            have hbw6 : Below w.heap.size w w6 := hbr.trans (hk6.below hbr.size (by intro j h; have : j = g := h; omega))
            clear hB hV0 hk6
            go_wp2_with fail
            refine (at0 g _ _ _ _ HB6.out).mono ?_
            rintro e w7 ⟨rfl, hb7⟩
            have HB7 := Lib.hid ((HB6.out.below hb7).alloc_ (.cells #[.string n0, .int .i64 v0, .string c0, .int .i64 p0, .int .i64 a0, .bool f0, .int .i64 t0, .bool g0] 41))
            have HX7 := Lib.hid (Box.new w7 41 #[.string n0, .int .i64 v0, .string c0, .int .i64 p0, .int .i64 a0, .bool f0, .int .i64 t0, .bool g0])
            have hbw7 : Below w.heap.size w w7 := grow_step hbw6 hb7
            clear hb7
            simp only
            go_wp2_with fail
            refine (at1 g _ _ _ _ HB7.out).mono ?_
            rintro e w8 ⟨rfl, hb8⟩
            have HB8 := Lib.hid ((HB7.out.below hb8).alloc_ (.cells #[.string n1, .int .i64 v1, .string c1, .int .i64 p1, .int .i64 a1, .bool f1, .int .i64 t1, .bool g1_] 41))
            have X8 := (HX7.out.below hb8).alloc_ (.cells #[.string n1, .int .i64 v1, .string c1, .int .i64 p1, .int .i64 a1, .bool f1, .int .i64 t1, .bool g1_] 41)
            have cX := X8.cell
            have lX := X8.lt
            have hbw8 : Below w.heap.size w w8 := grow_step (grow_alloc hbw7 _) hb8
            clear hb8 X8 HB7 HX7
            simp only
            cases g0
            · obtain rfl : g1_ = true := by
                have k5 := K5.out
                cases g1_
                · cases k5
                · rfl
              obtain rfl : f1 = true := F2.out rfl
              clear F1 F2 K5
              go_wp2_with fail
              go_roundw
              case rel => exact ⟨k + 1, q + 1, _, by omega, by omega, by go_num, by go_num, HV6, HB8, grow_alloc hbw8 _⟩
              case measure => simp [intOf]; omega
            · obtain rfl : g1_ = false := by
                have k5 := K5.out
                cases g1_
                · rfl
                · cases k5
              obtain rfl : f0 = true := F1.out rfl
              clear F1 F2 K5
              go_wp2_with fail
              go_roundw
              case rel => exact ⟨k + 1, q + 1, _, by omega, by omega, by go_num, by go_num, HV6, HB8, grow_alloc hbw8 _⟩
              case measure => simp [intOf]; omega
          · have gq : ¬ ((q : Int) < (ss.length : Int)) := by omega
            have hk6 := But.refl (fun k => k = g) wr
            have hB := HB.out
            have hV := HV.out
            have hV0 := hV
            obtain ⟨⟨n0, v0, c0, p0, a0, f0, t0, g0⟩, ⟨n1, v1, c1, p1, a1, f1, t1, g1_⟩, r⟩ := s
            obtain ⟨⟨f1_, k1, k2, _⟩, ⟨f2_, k3, k4, _⟩, k5, _⟩ := hV
            simp only at f1_ f2_ k1 k2 k3 k4 k5
            have K5 := Lib.hid k5
            have F1 := Lib.hid f1_
            have F2 := Lib.hid f2_
            clear k5 f1_ f2_
            have HB6 := Lib.hid hB
            have HV6 := Lib.hid hV0
            have hbw6 : Below w.heap.size w wr := hbr.trans (hk6.below hbr.size (by intro j h; have : j = g := h; omega))
            clear hB hV0 hk6
            go_wp2_with fail
            refine (at0 g _ _ _ _ HB6.out).mono ?_
            rintro e w7 ⟨rfl, hb7⟩
            have HB7 := Lib.hid ((HB6.out.below hb7).alloc_ (.cells #[.string n0, .int .i64 v0, .string c0, .int .i64 p0, .int .i64 a0, .bool f0, .int .i64 t0, .bool g0] 41))
            have HX7 := Lib.hid (Box.new w7 41 #[.string n0, .int .i64 v0, .string c0, .int .i64 p0, .int .i64 a0, .bool f0, .int .i64 t0, .bool g0])
            have hbw7 : Below w.heap.size w w7 := grow_step hbw6 hb7
            clear hb7
            simp only
            go_wp2_with fail
            refine (at1 g _ _ _ _ HB7.out).mono ?_
            rintro e w8 ⟨rfl, hb8⟩
            have HB8 := Lib.hid ((HB7.out.below hb8).alloc_ (.cells #[.string n1, .int .i64 v1, .string c1, .int .i64 p1, .int .i64 a1, .bool f1, .int .i64 t1, .bool g1_] 41))
            have X8 := (HX7.out.below hb8).alloc_ (.cells #[.string n1, .int .i64 v1, .string c1, .int .i64 p1, .int .i64 a1, .bool f1, .int .i64 t1, .bool g1_] 41)
            have cX := X8.cell
            have lX := X8.lt
            have hbw8 : Below w.heap.size w w8 := grow_step (grow_alloc hbw7 _) hb8
            clear hb8 X8 HB7 HX7
            simp only
            cases g0
            · obtain rfl : g1_ = true := by
                have k5 := K5.out
                cases g1_
                · cases k5
                · rfl
              obtain rfl : f1 = true := F2.out rfl
              clear F1 F2 K5
              go_wp2_with fail
              go_roundw
              case rel => exact ⟨k + 1, q, _, by omega, by omega, by go_num, by go_num, HV6, HB8, grow_alloc hbw8 _⟩
              case measure => simp [intOf]; omega
            · obtain rfl : g1_ = false := by
                have k5 := K5.out
                cases g1_
                · rfl
                · cases k5
              obtain rfl : f0 = true := F1.out rfl
              clear F1 F2 K5
              go_wp2_with fail
              go_roundw
              case rel => exact ⟨k + 1, q, _, by omega, by omega, by go_num, by go_num, HV6, HB8, grow_alloc hbw8 _⟩
              case measure => simp [intOf]; omega
        · by_cases y1 : y = 1
          · subst y1
            go_wp2_with fail
            refine (goodI g s _ HB.out HV.out).mono ?_
            rintro e w6 ⟨E, rfl, s', hV, hB, hk6⟩
            have hV0 := hV
            obtain ⟨⟨n0, v0, c0, p0, a0, f0, t0, g0⟩, ⟨n1, v1, c1, p1, a1, f1, t1, g1_⟩, r⟩ := s'
            obtain ⟨⟨f1_, k1, k2, _⟩, ⟨f2_, k3, k4, _⟩, k5, _⟩ := hV
            simp only at f1_ f2_ k1 k2 k3 k4 k5
            have K5 := Lib.hid k5
            have F1 := Lib.hid f1_
            have F2 := Lib.hid f2_
            clear k5 f1_ f2_
            have HB6 := Lib.hid hB
            have HV6 := Lib.hid hV0
            have hbw6 : Below w.heap.size w w6 := hbr.trans (hk6.below hbr.size (by intro j h; have : j = g := h; omega))
            clear hB hV0 hk6
            go_wp2_with fail
            refine (at0 g _ _ _ _ HB6.out).mono ?_
            rintro e w7 ⟨rfl, hb7⟩
            have HB7 := Lib.hid ((HB6.out.below hb7).alloc_ (.cells #[.string n0, .int .i64 v0, .string c0, .int .i64 p0, .int .i64 a0, .bool f0, .int .i64 t0, .bool g0] 41))
            have HX7 := Lib.hid (Box.new w7 41 #[.string n0, .int .i64 v0, .string c0, .int .i64 p0, .int .i64 a0, .bool f0, .int .i64 t0, .bool g0])
            have hbw7 : Below w.heap.size w w7 := grow_step hbw6 hb7
            clear hb7
            simp only
            go_wp2_with fail
            refine (at1 g _ _ _ _ HB7.out).mono ?_
            rintro e w8 ⟨rfl, hb8⟩
            have HB8 := Lib.hid ((HB7.out.below hb8).alloc_ (.cells #[.string n1, .int .i64 v1, .string c1, .int .i64 p1, .int .i64 a1, .bool f1, .int .i64 t1, .bool g1_] 41))
            have X8 := (HX7.out.below hb8).alloc_ (.cells #[.string n1, .int .i64 v1, .string c1, .int .i64 p1, .int .i64 a1, .bool f1, .int .i64 t1, .bool g1_] 41)
            have cX := X8.cell
            have lX := X8.lt
            have hbw8 : Below w.heap.size w w8 := grow_step (grow_alloc hbw7 _) hb8
            clear hb8 X8 HB7 HX7
            simp only
            cases g0
            · obtain rfl : g1_ = true := by
                have k5 := K5.out
                cases g1_
                · cases k5
                · rfl
              obtain rfl : f1 = true := F2.out rfl
              clear F1 F2 K5
              go_wp2_with fail
              go_roundw
              case rel => exact ⟨k + 1, q, _, by omega, by omega, by go_num, by go_num, HV6, HB8, grow_alloc hbw8 _⟩
              case measure => simp [intOf]; omega
            · obtain rfl : g1_ = false := by
                have k5 := K5.out
                cases g1_
                · rfl
                · cases k5
              obtain rfl : f0 = true := F1.out rfl
              clear F1 F2 K5
              go_wp2_with fail
              go_roundw
              case rel => exact ⟨k + 1, q, _, by omega, by omega, by go_num, by go_num, HV6, HB8, grow_alloc hbw8 _⟩
              case measure => simp [intOf]; omega
          · have yy0 : (y == 0) = false := by simp [y0]
            have yy1 : (y == 1) = false := by simp [y1]
            clear y0 y1
            go_wp2_with fail
            refine (startI g s _ _ HB.out HV.out rfl).mono ?_
            rintro e w6 ⟨rfl, hB, hk6⟩
            have hV := HV.out.start _ rfl
            obtain ⟨s', hs'⟩ : ∃ s', Slts.set_ ⟨s.x, s.y, s.pick⟩ s.pick (s.at_ s.pick).tried = s' := ⟨_, rfl⟩
            rw [hs'] at hB hV
            clear hs'
            have hV0 := hV
            obtain ⟨⟨n0, v0, c0, p0, a0, f0, t0, g0⟩, ⟨n1, v1, c1, p1, a1, f1, t1, g1_⟩, r⟩ := s'
            obtain ⟨⟨f1_, k1, k2, _⟩, ⟨f2_, k3, k4, _⟩, k5, _⟩ := hV
            simp only at f1_ f2_ k1 k2 k3 k4 k5
            have K5 := Lib.hid k5
            have F1 := Lib.hid f1_
            have F2 := Lib.hid f2_
            clear k5 f1_ f2_
            have HB6 := Lib.hid hB
            have HV6 := Lib.hid hV0
            have hbw6 : Below w.heap.size w w6 := hbr.trans (hk6.below hbr.size (by intro j h; have : j = g := h; omega))
            clear hB hV0 hk6
            go_wp2_with fail
            refine (at0 g _ _ _ _ HB6.out).mono ?_
            rintro e w7 ⟨rfl, hb7⟩
            have HB7 := Lib.hid ((HB6.out.below hb7).alloc_ (.cells #[.string n0, .int .i64 v0, .string c0, .int .i64 p0, .int .i64 a0, .bool f0, .int .i64 t0, .bool g0] 41))
            have HX7 := Lib.hid (Box.new w7 41 #[.string n0, .int .i64 v0, .string c0, .int .i64 p0, .int .i64 a0, .bool f0, .int .i64 t0, .bool g0])
            have hbw7 : Below w.heap.size w w7 := grow_step hbw6 hb7
            clear hb7
            simp only
            go_wp2_with fail
            refine (at1 g _ _ _ _ HB7.out).mono ?_
            rintro e w8 ⟨rfl, hb8⟩
            have HB8 := Lib.hid ((HB7.out.below hb8).alloc_ (.cells #[.string n1, .int .i64 v1, .string c1, .int .i64 p1, .int .i64 a1, .bool f1, .int .i64 t1, .bool g1_] 41))
            have X8 := (HX7.out.below hb8).alloc_ (.cells #[.string n1, .int .i64 v1, .string c1, .int .i64 p1, .int .i64 a1, .bool f1, .int .i64 t1, .bool g1_] 41)
            have cX := X8.cell
            have lX := X8.lt
            have hbw8 : Below w.heap.size w w8 := grow_step (grow_alloc hbw7 _) hb8
            clear hb8 X8 HB7 HX7
            simp only
            cases g0
            · obtain rfl : g1_ = true := by
                have k5 := K5.out
                cases g1_
                · cases k5
                · rfl
              obtain rfl : f1 = true := F2.out rfl
              clear F1 F2 K5
              go_wp2_with fail
              go_roundw
              case rel => exact ⟨k + 1, q, _, by omega, by omega, by go_num, by go_num, HV6, HB8, grow_alloc hbw8 _⟩
              case measure => simp [intOf]; omega
            · obtain rfl : g1_ = false := by
                have k5 := K5.out
                cases g1_
                · rfl
                · cases k5
              obtain rfl : f0 = true := F1.out rfl
              clear F1 F2 K5
              go_wp2_with fail
              go_roundw
              case rel => exact ⟨k + 1, q, _, by omega, by omega, by go_num, by go_num, HV6, HB8, grow_alloc hbw8 _⟩
              case measure => simp [intOf]; omega
      · go_wp2_with fail
        have hV := HV.out
        go_loopw [17, 18, 19, 20, 21] (fun i _ _ _ _ w3 => ∃ (j : Nat) (s : Slts), j ≤ 4 ∧ i = .int .i64 j ∧ Hid (Inv s) ∧ Hid (LeftT s j) ∧ Hid (Box w3 g 47 s.cs) ∧ Below w.heap.size w w3) (fun i _ _ _ _ _ => 4 - (intOf i).toNat)
        case atStart => exact ⟨0, s, by omega, rfl, HV, Lib.hid (LeftT.zero HV.out), HB, hbr⟩
        case round =>
          obtain ⟨j, s, hj, rfl, HV, HL, HB, hbr⟩ := hrel
          by_cases hj4 : j < 4
          · have gj : (j : Int) < 4 := by omega
            obtain ⟨P, hP⟩ : ∃ P, s.pick = P := ⟨_, rfl⟩
            have hok := pick_ok HV.out
            have hLT := HL.out
            unfold LeftT at hLT
            rw [hP] at hok hLT
            have HV2 := Lib.hid (HV.out.start P hP)
            have HL2 := Lib.hid (HL.out.start HV.out P hP)
            obtain ⟨_, b1, b2, b3, b4, b5, b6, b7⟩ := HV.out.at_ P
            have HP := Lib.hid hP
            clear hP
            obtain ⟨⟨n0, v0, c0, p0, a0, f0, t0, g0⟩, ⟨n1, v1, c1, p1, a1, f1, t1, g1_⟩, r⟩ := s
            have hfi : (((Slts.mk ⟨n0, v0, c0, p0, a0, f0, t0, g0⟩ ⟨n1, v1, c1, p1, a1, f1, t1, g1_⟩ r).at_ P).f = true) := by
              rcases hok with ⟨hk, _⟩ | ⟨_, hk, _⟩
              · exact (HV.out.at_ P).1 hk
              · exact hk
            cases P
            · obtain rfl : f0 = true := hfi
              simp only [Slts.at_] at b1 b2 b3 b4 b5 b6 b7 hok hLT
              have hgt : g0 = true ∨ (g0 = false ∧ 0 < t0 ∧ j < 3) := by
                rcases hok with ⟨hk, _⟩ | ⟨hk, _, ht, _⟩
                · exact Or.inl hk
                · have := hLT hk
                  exact Or.inr ⟨hk, ht, by omega⟩
              clear hok hLT
              rcases hgt with rfl | ⟨rfl, ht, hj3⟩
              · by_cases hj3 : j = 3
                · have gj3 : ((j : Int) == 3) = true := by simp; omega
                  have q1 := fun w => neSg n0 v0 c0 p0 a0 b3 b4 b5 b6 b7 w
                  have q2 := fun o q w => guardSg (.string n0) (.int .i64 v0) (.string c0) (.int .i64 p0) (.int .i64 a0) (.string n0) (.int .i64 v0) (.string c0) (.int .i64 p0) (.int .i64 a0) .neq o q w
                  go_wp2_with fail
                  refine (pick_at g _ false _ HB.out HP.out).mono ?_
                  rintro e w6 ⟨rfl, hb6⟩
                  have HB6 := Lib.hid (HB.out.below hb6)
                  have hbw6 : Below w.heap.size w w6 := grow_step hbr hb6
                  clear hb6
                  simp only [rI]
                  go_wp2_with fail
                  refine (at0 g _ _ _ _ HB6.out).mono ?_
                  rintro e w7 ⟨rfl, hb7⟩
                  have HB7 := Lib.hid ((HB6.out.below hb7).alloc_ (.cells #[.string n0, .int .i64 v0, .string c0, .int .i64 p0, .int .i64 a0, .bool true, .int .i64 t0, .bool true] 41))
                  have HX7 := Lib.hid (Box.new w7 41 #[.string n0, .int .i64 v0, .string c0, .int .i64 p0, .int .i64 a0, .bool true, .int .i64 t0, .bool true])
                  have hbw7 : Below w.heap.size w w7 := grow_step hbw6 hb7
                  have hgl7 := HB7.out.lt
                  have hne7 : g < w7.heap.size := Nat.lt_of_lt_of_le HB6.out.lt hb7.size
                  clear hb7
                  simp only
                  go_wp2_with fail
                  refine (startI g _ false _ HB7.out HV.out HP.out).mono ?_
                  rintro e w8 ⟨rfl, hB8, hk8⟩
                  have HB8 := Lib.hid (hB8.alloc_ (.cells #[.string n0, .int .i64 v0, .string c0, .int .i64 p0, .int .i64 a0] 27))
                  have X8 := (HX7.out.but hk8 (by intro h; have : w7.heap.size = g := h; omega)).alloc_ (.cells #[.string n0, .int .i64 v0, .string c0, .int .i64 p0, .int .i64 a0] 27)
                  have cX := X8.cell
                  have lX := X8.lt
                  have hbw8 : Below w.heap.size w w8 := (grow_alloc hbw7 _).trans (hk8.below (Nat.le_trans hbw7.size (by simp)) (by intro j h; have : j = g := h; omega))
                  clear hB8 hk8 X8 HB7 HX7
                  simp only [Slts.at_, Slt.im]
                  go_wp2_with fail
                  go_roundw
                  case rel => exact ⟨j + 1, _, by omega, by go_num, HV2, HL2, HB8, grow_alloc hbw8 _⟩
                  case measure => simp [intOf]; omega
                · have gj3 : ((j : Int) == 3) = false := by simp; omega
                  have q1 := fun w => neSg n0 v0 c0 p0 a0 b3 b4 b5 b6 b7 w
                  have q2 := fun o q w => guardSg (.string n0) (.int .i64 v0) (.string c0) (.int .i64 p0) (.int .i64 a0) (.string n0) (.int .i64 v0) (.string c0) (.int .i64 p0) (.int .i64 a0) .neq o q w
                  go_wp2_with fail
                  refine (pick_at g _ false _ HB.out HP.out).mono ?_
                  rintro e w6 ⟨rfl, hb6⟩
                  have HB6 := Lib.hid (HB.out.below hb6)
                  have hbw6 : Below w.heap.size w w6 := grow_step hbr hb6
                  clear hb6
                  simp only [rI]
                  go_wp2_with fail
                  refine (at0 g _ _ _ _ HB6.out).mono ?_
                  rintro e w7 ⟨rfl, hb7⟩
                  have HB7 := Lib.hid ((HB6.out.below hb7).alloc_ (.cells #[.string n0, .int .i64 v0, .string c0, .int .i64 p0, .int .i64 a0, .bool true, .int .i64 t0, .bool true] 41))
                  have HX7 := Lib.hid (Box.new w7 41 #[.string n0, .int .i64 v0, .string c0, .int .i64 p0, .int .i64 a0, .bool true, .int .i64 t0, .bool true])
                  have hbw7 : Below w.heap.size w w7 := grow_step hbw6 hb7
                  have hgl7 := HB7.out.lt
                  have hne7 : g < w7.heap.size := Nat.lt_of_lt_of_le HB6.out.lt hb7.size
                  clear hb7
                  simp only
                  go_wp2_with fail
                  refine (startI g _ false _ HB7.out HV.out HP.out).mono ?_
                  rintro e w8 ⟨rfl, hB8, hk8⟩
                  have HB8 := Lib.hid (hB8.alloc_ (.cells #[.string n0, .int .i64 v0, .string c0, .int .i64 p0, .int .i64 a0] 27))
                  have X8 := (HX7.out.but hk8 (by intro h; have : w7.heap.size = g := h; omega)).alloc_ (.cells #[.string n0, .int .i64 v0, .string c0, .int .i64 p0, .int .i64 a0] 27)
                  have cX := X8.cell
                  have lX := X8.lt
                  have hbw8 : Below w.heap.size w w8 := (grow_alloc hbw7 _).trans (hk8.below (Nat.le_trans hbw7.size (by simp)) (by intro j h; have : j = g := h; omega))
                  clear hB8 hk8 X8 HB7 HX7
                  simp only [Slts.at_, Slt.im]
                  go_wp2_with fail
                  go_roundw
                  case rel => exact ⟨j + 1, _, by omega, by go_num, HV2, HL2, HB8, grow_alloc hbw8 _⟩
                  case measure => simp [intOf]; omega
              · have gj3 : ((j : Int) == 3) = false := by simp; omega
                have q1 := fun w => neSg n0 v0 c0 p0 a0 b3 b4 b5 b6 b7 w
                have q2 := fun o q w => guardSg (.string n0) (.int .i64 v0) (.string c0) (.int .i64 p0) (.int .i64 a0) (.string n0) (.int .i64 v0) (.string c0) (.int .i64 p0) (.int .i64 a0) .neq o q w
                go_wp2_with fail
                refine (pick_at g _ false _ HB.out HP.out).mono ?_
                rintro e w6 ⟨rfl, hb6⟩
                have HB6 := Lib.hid (HB.out.below hb6)
                have hbw6 : Below w.heap.size w w6 := grow_step hbr hb6
                clear hb6
                simp only [rI]
                go_wp2_with fail
                refine (at0 g _ _ _ _ HB6.out).mono ?_
                rintro e w7 ⟨rfl, hb7⟩
                have HB7 := Lib.hid ((HB6.out.below hb7).alloc_ (.cells #[.string n0, .int .i64 v0, .string c0, .int .i64 p0, .int .i64 a0, .bool true, .int .i64 t0, .bool false] 41))
                have HX7 := Lib.hid (Box.new w7 41 #[.string n0, .int .i64 v0, .string c0, .int .i64 p0, .int .i64 a0, .bool true, .int .i64 t0, .bool false])
                have hbw7 : Below w.heap.size w w7 := grow_step hbw6 hb7
                have hgl7 := HB7.out.lt
                have hne7 : g < w7.heap.size := Nat.lt_of_lt_of_le HB6.out.lt hb7.size
                clear hb7
                simp only
                go_wp2_with fail
                refine (startI g _ false _ HB7.out HV.out HP.out).mono ?_
                rintro e w8 ⟨rfl, hB8, hk8⟩
                have HB8 := Lib.hid (hB8.alloc_ (.cells #[.string n0, .int .i64 v0, .string c0, .int .i64 p0, .int .i64 a0] 27))
                have X8 := (HX7.out.but hk8 (by intro h; have : w7.heap.size = g := h; omega)).alloc_ (.cells #[.string n0, .int .i64 v0, .string c0, .int .i64 p0, .int .i64 a0] 27)
                have cX := X8.cell
                have lX := X8.lt
                have hbw8 : Below w.heap.size w w8 := (grow_alloc hbw7 _).trans (hk8.below (Nat.le_trans hbw7.size (by simp)) (by intro j h; have : j = g := h; omega))
                clear hB8 hk8 X8 HB7 HX7
                simp only [Slts.at_, Slt.im]
                go_wp2_with fail
                go_roundw
                case rel => exact ⟨j + 1, _, by omega, by go_num, HV2, HL2, HB8, grow_alloc hbw8 _⟩
                case measure => simp [intOf]; omega
            · obtain rfl : f1 = true := hfi
              simp only [Slts.at_] at b1 b2 b3 b4 b5 b6 b7 hok hLT
              have hgt : g1_ = true ∨ (g1_ = false ∧ 0 < t1 ∧ j < 3) := by
                rcases hok with ⟨hk, _⟩ | ⟨hk, _, ht, _⟩
                · exact Or.inl hk
                · have := hLT hk
                  exact Or.inr ⟨hk, ht, by omega⟩
              clear hok hLT
              rcases hgt with rfl | ⟨rfl, ht, hj3⟩
              · by_cases hj3 : j = 3
                · have gj3 : ((j : Int) == 3) = true := by simp; omega
                  have q1 := fun w => neSg n1 v1 c1 p1 a1 b3 b4 b5 b6 b7 w
                  have q2 := fun o q w => guardSg (.string n1) (.int .i64 v1) (.string c1) (.int .i64 p1) (.int .i64 a1) (.string n1) (.int .i64 v1) (.string c1) (.int .i64 p1) (.int .i64 a1) .neq o q w
                  go_wp2_with fail
                  refine (pick_at g _ true _ HB.out HP.out).mono ?_
                  rintro e w6 ⟨rfl, hb6⟩
                  have HB6 := Lib.hid (HB.out.below hb6)
                  have hbw6 : Below w.heap.size w w6 := grow_step hbr hb6
                  clear hb6
                  simp only [rI]
                  go_wp2_with fail
                  refine (at1 g _ _ _ _ HB6.out).mono ?_
                  rintro e w7 ⟨rfl, hb7⟩
                  have HB7 := Lib.hid ((HB6.out.below hb7).alloc_ (.cells #[.string n1, .int .i64 v1, .string c1, .int .i64 p1, .int .i64 a1, .bool true, .int .i64 t1, .bool true] 41))
                  have HX7 := Lib.hid (Box.new w7 41 #[.string n1, .int .i64 v1, .string c1, .int .i64 p1, .int .i64 a1, .bool true, .int .i64 t1, .bool true])
                  have hbw7 : Below w.heap.size w w7 := grow_step hbw6 hb7
                  have hgl7 := HB7.out.lt
                  have hne7 : g < w7.heap.size := Nat.lt_of_lt_of_le HB6.out.lt hb7.size
                  clear hb7
                  simp only
                  go_wp2_with fail
                  refine (startI g _ true _ HB7.out HV.out HP.out).mono ?_
                  rintro e w8 ⟨rfl, hB8, hk8⟩
                  have HB8 := Lib.hid (hB8.alloc_ (.cells #[.string n1, .int .i64 v1, .string c1, .int .i64 p1, .int .i64 a1] 27))
                  have X8 := (HX7.out.but hk8 (by intro h; have : w7.heap.size = g := h; omega)).alloc_ (.cells #[.string n1, .int .i64 v1, .string c1, .int .i64 p1, .int .i64 a1] 27)
                  have cX := X8.cell
                  have lX := X8.lt
                  have hbw8 : Below w.heap.size w w8 := (grow_alloc hbw7 _).trans (hk8.below (Nat.le_trans hbw7.size (by simp)) (by intro j h; have : j = g := h; omega))
                  clear hB8 hk8 X8 HB7 HX7
                  simp only [Slts.at_, Slt.im]
                  go_wp2_with fail
                  go_roundw
                  case rel => exact ⟨j + 1, _, by omega, by go_num, HV2, HL2, HB8, grow_alloc hbw8 _⟩
                  case measure => simp [intOf]; omega
                · have gj3 : ((j : Int) == 3) = false := by simp; omega
                  have q1 := fun w => neSg n1 v1 c1 p1 a1 b3 b4 b5 b6 b7 w
                  have q2 := fun o q w => guardSg (.string n1) (.int .i64 v1) (.string c1) (.int .i64 p1) (.int .i64 a1) (.string n1) (.int .i64 v1) (.string c1) (.int .i64 p1) (.int .i64 a1) .neq o q w
                  go_wp2_with fail
                  refine (pick_at g _ true _ HB.out HP.out).mono ?_
                  rintro e w6 ⟨rfl, hb6⟩
                  have HB6 := Lib.hid (HB.out.below hb6)
                  have hbw6 : Below w.heap.size w w6 := grow_step hbr hb6
                  clear hb6
                  simp only [rI]
                  go_wp2_with fail
                  refine (at1 g _ _ _ _ HB6.out).mono ?_
                  rintro e w7 ⟨rfl, hb7⟩
                  have HB7 := Lib.hid ((HB6.out.below hb7).alloc_ (.cells #[.string n1, .int .i64 v1, .string c1, .int .i64 p1, .int .i64 a1, .bool true, .int .i64 t1, .bool true] 41))
                  have HX7 := Lib.hid (Box.new w7 41 #[.string n1, .int .i64 v1, .string c1, .int .i64 p1, .int .i64 a1, .bool true, .int .i64 t1, .bool true])
                  have hbw7 : Below w.heap.size w w7 := grow_step hbw6 hb7
                  have hgl7 := HB7.out.lt
                  have hne7 : g < w7.heap.size := Nat.lt_of_lt_of_le HB6.out.lt hb7.size
                  clear hb7
                  simp only
                  go_wp2_with fail
                  refine (startI g _ true _ HB7.out HV.out HP.out).mono ?_
                  rintro e w8 ⟨rfl, hB8, hk8⟩
                  have HB8 := Lib.hid (hB8.alloc_ (.cells #[.string n1, .int .i64 v1, .string c1, .int .i64 p1, .int .i64 a1] 27))
                  have X8 := (HX7.out.but hk8 (by intro h; have : w7.heap.size = g := h; omega)).alloc_ (.cells #[.string n1, .int .i64 v1, .string c1, .int .i64 p1, .int .i64 a1] 27)
                  have cX := X8.cell
                  have lX := X8.lt
                  have hbw8 : Below w.heap.size w w8 := (grow_alloc hbw7 _).trans (hk8.below (Nat.le_trans hbw7.size (by simp)) (by intro j h; have : j = g := h; omega))
                  clear hB8 hk8 X8 HB7 HX7
                  simp only [Slts.at_, Slt.im]
                  go_wp2_with fail
                  go_roundw
                  case rel => exact ⟨j + 1, _, by omega, by go_num, HV2, HL2, HB8, grow_alloc hbw8 _⟩
                  case measure => simp [intOf]; omega
              · have gj3 : ((j : Int) == 3) = false := by simp; omega
                have q1 := fun w => neSg n1 v1 c1 p1 a1 b3 b4 b5 b6 b7 w
                have q2 := fun o q w => guardSg (.string n1) (.int .i64 v1) (.string c1) (.int .i64 p1) (.int .i64 a1) (.string n1) (.int .i64 v1) (.string c1) (.int .i64 p1) (.int .i64 a1) .neq o q w
                go_wp2_with fail
                refine (pick_at g _ true _ HB.out HP.out).mono ?_
                rintro e w6 ⟨rfl, hb6⟩
                have HB6 := Lib.hid (HB.out.below hb6)
                have hbw6 : Below w.heap.size w w6 := grow_step hbr hb6
                clear hb6
                simp only [rI]
                go_wp2_with fail
                refine (at1 g _ _ _ _ HB6.out).mono ?_
                rintro e w7 ⟨rfl, hb7⟩
                have HB7 := Lib.hid ((HB6.out.below hb7).alloc_ (.cells #[.string n1, .int .i64 v1, .string c1, .int .i64 p1, .int .i64 a1, .bool true, .int .i64 t1, .bool false] 41))
                have HX7 := Lib.hid (Box.new w7 41 #[.string n1, .int .i64 v1, .string c1, .int .i64 p1, .int .i64 a1, .bool true, .int .i64 t1, .bool false])
                have hbw7 : Below w.heap.size w w7 := grow_step hbw6 hb7
                have hgl7 := HB7.out.lt
                have hne7 : g < w7.heap.size := Nat.lt_of_lt_of_le HB6.out.lt hb7.size
                clear hb7
                simp only
                go_wp2_with fail
                refine (startI g _ true _ HB7.out HV.out HP.out).mono ?_
                rintro e w8 ⟨rfl, hB8, hk8⟩
                have HB8 := Lib.hid (hB8.alloc_ (.cells #[.string n1, .int .i64 v1, .string c1, .int .i64 p1, .int .i64 a1] 27))
                have X8 := (HX7.out.but hk8 (by intro h; have : w7.heap.size = g := h; omega)).alloc_ (.cells #[.string n1, .int .i64 v1, .string c1, .int .i64 p1, .int .i64 a1] 27)
                have cX := X8.cell
                have lX := X8.lt
                have hbw8 : Below w.heap.size w w8 := (grow_alloc hbw7 _).trans (hk8.below (Nat.le_trans hbw7.size (by simp)) (by intro j h; have : j = g := h; omega))
                clear hB8 hk8 X8 HB7 HX7
                simp only [Slts.at_, Slt.im]
                go_wp2_with fail
                go_roundw
                case rel => exact ⟨j + 1, _, by omega, by go_num, HV2, HL2, HB8, grow_alloc hbw8 _⟩
                case measure => simp [intOf]; omega
          · go_wp2_with fail
            go_ret
            exact ⟨rfl, hbr⟩
    · go_wp2_with fail
      have hV := HV.out
      go_loopw [17, 18, 19, 20, 21] (fun i _ _ _ _ w3 => ∃ (j : Nat) (s : Slts), j ≤ 4 ∧ i = .int .i64 j ∧ Hid (Inv s) ∧ Hid (LeftT s j) ∧ Hid (Box w3 g 47 s.cs) ∧ Below w.heap.size w w3) (fun i _ _ _ _ _ => 4 - (intOf i).toNat)
      case atStart => exact ⟨0, s, by omega, rfl, HV, Lib.hid (LeftT.zero HV.out), HB, hbr⟩
      case round =>
        obtain ⟨j, s, hj, rfl, HV, HL, HB, hbr⟩ := hrel
        by_cases hj4 : j < 4
        · have gj : (j : Int) < 4 := by omega
          obtain ⟨P, hP⟩ : ∃ P, s.pick = P := ⟨_, rfl⟩
          have hok := pick_ok HV.out
          have hLT := HL.out
          unfold LeftT at hLT
          rw [hP] at hok hLT
          have HV2 := Lib.hid (HV.out.start P hP)
          have HL2 := Lib.hid (HL.out.start HV.out P hP)
          obtain ⟨_, b1, b2, b3, b4, b5, b6, b7⟩ := HV.out.at_ P
          have HP := Lib.hid hP
          clear hP
          obtain ⟨⟨n0, v0, c0, p0, a0, f0, t0, g0⟩, ⟨n1, v1, c1, p1, a1, f1, t1, g1_⟩, r⟩ := s
          have hfi : (((Slts.mk ⟨n0, v0, c0, p0, a0, f0, t0, g0⟩ ⟨n1, v1, c1, p1, a1, f1, t1, g1_⟩ r).at_ P).f = true) := by
            rcases hok with ⟨hk, _⟩ | ⟨_, hk, _⟩
            · exact (HV.out.at_ P).1 hk
            · exact hk
          cases P
          · obtain rfl : f0 = true := hfi
            simp only [Slts.at_] at b1 b2 b3 b4 b5 b6 b7 hok hLT
            have hgt : g0 = true ∨ (g0 = false ∧ 0 < t0 ∧ j < 3) := by
              rcases hok with ⟨hk, _⟩ | ⟨hk, _, ht, _⟩
              · exact Or.inl hk
              · have := hLT hk
                exact Or.inr ⟨hk, ht, by omega⟩
            clear hok hLT
            rcases hgt with rfl | ⟨rfl, ht, hj3⟩
            · by_cases hj3 : j = 3
              · have gj3 : ((j : Int) == 3) = true := by simp; omega
                have q1 := fun w => neSg n0 v0 c0 p0 a0 b3 b4 b5 b6 b7 w
                have q2 := fun o q w => guardSg (.string n0) (.int .i64 v0) (.string c0) (.int .i64 p0) (.int .i64 a0) (.string n0) (.int .i64 v0) (.string c0) (.int .i64 p0) (.int .i64 a0) .neq o q w
                go_wp2_with fail
                refine (pick_at g _ false _ HB.out HP.out).mono ?_
                rintro e w6 ⟨rfl, hb6⟩
                have HB6 := Lib.hid (HB.out.below hb6)
                have hbw6 : Below w.heap.size w w6 := grow_step hbr hb6
                clear hb6
                simp only [rI]
                go_wp2_with fail
                refine (at0 g _ _ _ _ HB6.out).mono ?_
                rintro e w7 ⟨rfl, hb7⟩
                have HB7 := Lib.hid ((HB6.out.below hb7).alloc_ (.cells #[.string n0, .int .i64 v0, .string c0, .int .i64 p0, .int .i64 a0, .bool true, .int .i64 t0, .bool true] 41))
                have HX7 := Lib.hid (Box.new w7 41 #[.string n0, .int .i64 v0, .string c0, .int .i64 p0, .int .i64 a0, .bool true, .int .i64 t0, .bool true])
                have hbw7 : Below w.heap.size w w7 := grow_step hbw6 hb7
                have hgl7 := HB7.out.lt
                have hne7 : g < w7.heap.size := Nat.lt_of_lt_of_le HB6.out.lt hb7.size
                clear hb7
                simp only
                go_wp2_with fail
                refine (startI g _ false _ HB7.out HV.out HP.out).mono ?_
                rintro e w8 ⟨rfl, hB8, hk8⟩
                have HB8 := Lib.hid (hB8.alloc_ (.cells #[.string n0, .int .i64 v0, .string c0, .int .i64 p0, .int .i64 a0] 27))
                have X8 := (HX7.out.but hk8 (by intro h; have : w7.heap.size = g := h; omega)).alloc_ (.cells #[.string n0, .int .i64 v0, .string c0, .int .i64 p0, .int .i64 a0] 27)
                have cX := X8.cell
                have lX := X8.lt
                have hbw8 : Below w.heap.size w w8 := (grow_alloc hbw7 _).trans (hk8.below (Nat.le_trans hbw7.size (by simp)) (by intro j h; have : j = g := h; omega))
                clear hB8 hk8 X8 HB7 HX7
                simp only [Slts.at_, Slt.im]
                go_wp2_with fail
                go_roundw
                case rel => exact ⟨j + 1, _, by omega, by go_num, HV2, HL2, HB8, grow_alloc hbw8 _⟩
                case measure => simp [intOf]; omega
              · have gj3 : ((j : Int) == 3) = false := by simp; omega
                have q1 := fun w => neSg n0 v0 c0 p0 a0 b3 b4 b5 b6 b7 w
                have q2 := fun o q w => guardSg (.string n0) (.int .i64 v0) (.string c0) (.int .i64 p0) (.int .i64 a0) (.string n0) (.int .i64 v0) (.string c0) (.int .i64 p0) (.int .i64 a0) .neq o q w
                go_wp2_with fail
                refine (pick_at g _ false _ HB.out HP.out).mono ?_
                rintro e w6 ⟨rfl, hb6⟩
                have HB6 := Lib.hid (HB.out.below hb6)
                have hbw6 : Below w.heap.size w w6 := grow_step hbr hb6
                clear hb6
                simp only [rI]
                go_wp2_with fail
                refine (at0 g _ _ _ _ HB6.out).mono ?_
                rintro e w7 ⟨rfl, hb7⟩
                have HB7 := Lib.hid ((HB6.out.below hb7).alloc_ (.cells #[.string n0, .int .i64 v0, .string c0, .int .i64 p0, .int .i64 a0, .bool true, .int .i64 t0, .bool true] 41))
                have HX7 := Lib.hid (Box.new w7 41 #[.string n0, .int .i64 v0, .string c0, .int .i64 p0, .int .i64 a0, .bool true, .int .i64 t0, .bool true])
                have hbw7 : Below w.heap.size w w7 := grow_step hbw6 hb7
                have hgl7 := HB7.out.lt
                have hne7 : g < w7.heap.size := Nat.lt_of_lt_of_le HB6.out.lt hb7.size
                clear hb7
                simp only
                go_wp2_with fail
                refine (startI g _ false _ HB7.out HV.out HP.out).mono ?_
                rintro e w8 ⟨rfl, hB8, hk8⟩
                have HB8 := Lib.hid (hB8.alloc_ (.cells #[.string n0, .int .i64 v0, .string c0, .int .i64 p0, .int .i64 a0] 27))
                have X8 := (HX7.out.but hk8 (by intro h; have : w7.heap.size = g := h; omega)).alloc_ (.cells #[.string n0, .int .i64 v0, .string c0, .int .i64 p0, .int .i64 a0] 27)
                have cX := X8.cell
                have lX := X8.lt
                have hbw8 : Below w.heap.size w w8 := (grow_alloc hbw7 _).trans (hk8.below (Nat.le_trans hbw7.size (by simp)) (by intro j h; have : j = g := h; omega))
                clear hB8 hk8 X8 HB7 HX7
                simp only [Slts.at_, Slt.im]
                go_wp2_with fail
                go_roundw
                case rel => exact ⟨j + 1, _, by omega, by go_num, HV2, HL2, HB8, grow_alloc hbw8 _⟩
                case measure => simp [intOf]; omega
            · have gj3 : ((j : Int) == 3) = false := by simp; omega
              have q1 := fun w => neSg n0 v0 c0 p0 a0 b3 b4 b5 b6 b7 w
              have q2 := fun o q w => guardSg (.string n0) (.int .i64 v0) (.string c0) (.int .i64 p0) (.int .i64 a0) (.string n0) (.int .i64 v0) (.string c0) (.int .i64 p0) (.int .i64 a0) .neq o q w
              go_wp2_with fail
              refine (pick_at g _ false _ HB.out HP.out).mono ?_
              rintro e w6 ⟨rfl, hb6⟩
              have HB6 := Lib.hid (HB.out.below hb6)
              have hbw6 : Below w.heap.size w w6 := grow_step hbr hb6
              clear hb6
              simp only [rI]
              go_wp2_with fail
              refine (at0 g _ _ _ _ HB6.out).mono ?_
              rintro e w7 ⟨rfl, hb7⟩
              have HB7 := Lib.hid ((HB6.out.below hb7).alloc_ (.cells #[.string n0, .int .i64 v0, .string c0, .int .i64 p0, .int .i64 a0, .bool true, .int .i64 t0, .bool false] 41))
              have HX7 := Lib.hid (Box.new w7 41 #[.string n0, .int .i64 v0, .string c0, .int .i64 p0, .int .i64 a0, .bool true, .int .i64 t0, .bool false])
              have hbw7 : Below w.heap.size w w7 := grow_step hbw6 hb7
              have hgl7 := HB7.out.lt
              have hne7 : g < w7.heap.size := Nat.lt_of_lt_of_le HB6.out.lt hb7.size
              clear hb7
              simp only
              go_wp2_with fail
              refine (startI g _ false _ HB7.out HV.out HP.out).mono ?_
              rintro e w8 ⟨rfl, hB8, hk8⟩
              have HB8 := Lib.hid (hB8.alloc_ (.cells #[.string n0, .int .i64 v0, .string c0, .int .i64 p0, .int .i64 a0] 27))
              have X8 := (HX7.out.but hk8 (by intro h; have : w7.heap.size = g := h; omega)).alloc_ (.cells #[.string n0, .int .i64 v0, .string c0, .int .i64 p0, .int .i64 a0] 27)
              have cX := X8.cell
              have lX := X8.lt
              have hbw8 : Below w.heap.size w w8 := (grow_alloc hbw7 _).trans (hk8.below (Nat.le_trans hbw7.size (by simp)) (by intro j h; have : j = g := h; omega))
              clear hB8 hk8 X8 HB7 HX7
              simp only [Slts.at_, Slt.im]
              go_wp2_with fail
              go_roundw
              case rel => exact ⟨j + 1, _, by omega, by go_num, HV2, HL2, HB8, grow_alloc hbw8 _⟩
              case measure => simp [intOf]; omega
          · obtain rfl : f1 = true := hfi
            simp only [Slts.at_] at b1 b2 b3 b4 b5 b6 b7 hok hLT
            have hgt : g1_ = true ∨ (g1_ = false ∧ 0 < t1 ∧ j < 3) := by
              rcases hok with ⟨hk, _⟩ | ⟨hk, _, ht, _⟩
              · exact Or.inl hk
              · have := hLT hk
                exact Or.inr ⟨hk, ht, by omega⟩
            clear hok hLT
            rcases hgt with rfl | ⟨rfl, ht, hj3⟩
            · by_cases hj3 : j = 3
              · have gj3 : ((j : Int) == 3) = true := by simp; omega
                have q1 := fun w => neSg n1 v1 c1 p1 a1 b3 b4 b5 b6 b7 w
                have q2 := fun o q w => guardSg (.string n1) (.int .i64 v1) (.string c1) (.int .i64 p1) (.int .i64 a1) (.string n1) (.int .i64 v1) (.string c1) (.int .i64 p1) (.int .i64 a1) .neq o q w
                go_wp2_with fail
                refine (pick_at g _ true _ HB.out HP.out).mono ?_
                rintro e w6 ⟨rfl, hb6⟩
                have HB6 := Lib.hid (HB.out.below hb6)
                have hbw6 : Below w.heap.size w w6 := grow_step hbr hb6
                clear hb6
                simp only [rI]
                go_wp2_with fail
                refine (at1 g _ _ _ _ HB6.out).mono ?_
                rintro e w7 ⟨rfl, hb7⟩
                have HB7 := Lib.hid ((HB6.out.below hb7).alloc_ (.cells #[.string n1, .int .i64 v1, .string c1, .int .i64 p1, .int .i64 a1, .bool true, .int .i64 t1, .bool true] 41))
                have HX7 := Lib.hid (Box.new w7 41 #[.string n1, .int .i64 v1, .string c1, .int .i64 p1, .int .i64 a1, .bool true, .int .i64 t1, .bool true])
                have hbw7 : Below w.heap.size w w7 := grow_step hbw6 hb7
                have hgl7 := HB7.out.lt
                have hne7 : g < w7.heap.size := Nat.lt_of_lt_of_le HB6.out.lt hb7.size
                clear hb7
                simp only
                go_wp2_with fail
                refine (startI g _ true _ HB7.out HV.out HP.out).mono ?_
                rintro e w8 ⟨rfl, hB8, hk8⟩
                have HB8 := Lib.hid (hB8.alloc_ (.cells #[.string n1, .int .i64 v1, .string c1, .int .i64 p1, .int .i64 a1] 27))
                have X8 := (HX7.out.but hk8 (by intro h; have : w7.heap.size = g := h; omega)).alloc_ (.cells #[.string n1, .int .i64 v1, .string c1, .int .i64 p1, .int .i64 a1] 27)
                have cX := X8.cell
                have lX := X8.lt
                have hbw8 : Below w.heap.size w w8 := (grow_alloc hbw7 _).trans (hk8.below (Nat.le_trans hbw7.size (by simp)) (by intro j h; have : j = g := h; omega))
                clear hB8 hk8 X8 HB7 HX7
                simp only [Slts.at_, Slt.im]
                go_wp2_with fail
                go_roundw
                case rel => exact ⟨j + 1, _, by omega, by go_num, HV2, HL2, HB8, grow_alloc hbw8 _⟩
                case measure => simp [intOf]; omega
              · have gj3 : ((j : Int) == 3) = false := by simp; omega
                have q1 := fun w => neSg n1 v1 c1 p1 a1 b3 b4 b5 b6 b7 w
                have q2 := fun o q w => guardSg (.string n1) (.int .i64 v1) (.string c1) (.int .i64 p1) (.int .i64 a1) (.string n1) (.int .i64 v1) (.string c1) (.int .i64 p1) (.int .i64 a1) .neq o q w
                go_wp2_with fail
                refine (pick_at g _ true _ HB.out HP.out).mono ?_
                rintro e w6 ⟨rfl, hb6⟩
                have HB6 := Lib.hid (HB.out.below hb6)
                have hbw6 : Below w.heap.size w w6 := grow_step hbr hb6
                clear hb6
                simp only [rI]
                go_wp2_with fail
                refine (at1 g _ _ _ _ HB6.out).mono ?_
                rintro e w7 ⟨rfl, hb7⟩
                have HB7 := Lib.hid ((HB6.out.below hb7).alloc_ (.cells #[.string n1, .int .i64 v1, .string c1, .int .i64 p1, .int .i64 a1, .bool true, .int .i64 t1, .bool true] 41))
                have HX7 := Lib.hid (Box.new w7 41 #[.string n1, .int .i64 v1, .string c1, .int .i64 p1, .int .i64 a1, .bool true, .int .i64 t1, .bool true])
                have hbw7 : Below w.heap.size w w7 := grow_step hbw6 hb7
                have hgl7 := HB7.out.lt
                have hne7 : g < w7.heap.size := Nat.lt_of_lt_of_le HB6.out.lt hb7.size
                clear hb7
                simp only
                go_wp2_with fail
                refine (startI g _ true _ HB7.out HV.out HP.out).mono ?_
                rintro e w8 ⟨rfl, hB8, hk8⟩
                have HB8 := Lib.hid (hB8.alloc_ (.cells #[.string n1, .int .i64 v1, .string c1, .int .i64 p1, .int .i64 a1] 27))
                have X8 := (HX7.out.but hk8 (by intro h; have : w7.heap.size = g := h; omega)).alloc_ (.cells #[.string n1, .int .i64 v1, .string c1, .int .i64 p1, .int .i64 a1] 27)
                have cX := X8.cell
                have lX := X8.lt
                have hbw8 : Below w.heap.size w w8 := (grow_alloc hbw7 _).trans (hk8.below (Nat.le_trans hbw7.size (by simp)) (by intro j h; have : j = g := h; omega))
                clear hB8 hk8 X8 HB7 HX7
                simp only [Slts.at_, Slt.im]
                go_wp2_with fail
                go_roundw
                case rel => exact ⟨j + 1, _, by omega, by go_num, HV2, HL2, HB8, grow_alloc hbw8 _⟩
                case measure => simp [intOf]; omega
            · have gj3 : ((j : Int) == 3) = false := by simp; omega
              have q1 := fun w => neSg n1 v1 c1 p1 a1 b3 b4 b5 b6 b7 w
              have q2 := fun o q w => guardSg (.string n1) (.int .i64 v1) (.string c1) (.int .i64 p1) (.int .i64 a1) (.string n1) (.int .i64 v1) (.string c1) (.int .i64 p1) (.int .i64 a1) .neq o q w
              go_wp2_with fail
              refine (pick_at g _ true _ HB.out HP.out).mono ?_
              rintro e w6 ⟨rfl, hb6⟩
              have HB6 := Lib.hid (HB.out.below hb6)
              have hbw6 : Below w.heap.size w w6 := grow_step hbr hb6
              clear hb6
              simp only [rI]
              go_wp2_with fail
              refine (at1 g _ _ _ _ HB6.out).mono ?_
              rintro e w7 ⟨rfl, hb7⟩
              have HB7 := Lib.hid ((HB6.out.below hb7).alloc_ (.cells #[.string n1, .int .i64 v1, .string c1, .int .i64 p1, .int .i64 a1, .bool true, .int .i64 t1, .bool false] 41))
              have HX7 := Lib.hid (Box.new w7 41 #[.string n1, .int .i64 v1, .string c1, .int .i64 p1, .int .i64 a1, .bool true, .int .i64 t1, .bool false])
              have hbw7 : Below w.heap.size w w7 := grow_step hbw6 hb7
              have hgl7 := HB7.out.lt
              have hne7 : g < w7.heap.size := Nat.lt_of_lt_of_le HB6.out.lt hb7.size
              clear hb7
              simp only
              go_wp2_with fail
              refine (startI g _ true _ HB7.out HV.out HP.out).mono ?_
              rintro e w8 ⟨rfl, hB8, hk8⟩
              have HB8 := Lib.hid (hB8.alloc_ (.cells #[.string n1, .int .i64 v1, .string c1, .int .i64 p1, .int .i64 a1] 27))
              have X8 := (HX7.out.but hk8 (by intro h; have : w7.heap.size = g := h; omega)).alloc_ (.cells #[.string n1, .int .i64 v1, .string c1, .int .i64 p1, .int .i64 a1] 27)
              have cX := X8.cell
              have lX := X8.lt
              have hbw8 : Below w.heap.size w w8 := (grow_alloc hbw7 _).trans (hk8.below (Nat.le_trans hbw7.size (by simp)) (by intro j h; have : j = g := h; omega))
              clear hB8 hk8 X8 HB7 HX7
              simp only [Slts.at_, Slt.im]
              go_wp2_with fail
              go_roundw
              case rel => exact ⟨j + 1, _, by omega, by go_num, HV2, HL2, HB8, grow_alloc hbw8 _⟩
              case measure => simp [intOf]; omega
        · go_wp2_with fail
          go_ret
          exact ⟨rfl, hbr⟩

set_option maxRecDepth 100000 in
theorem slotSafe_walks (H : Type) (enc : TypeId × Value → H) : Walks enc Try.prog 3 Try.f3 := by
  intro W base args ds p hval hA hlt hsz hsh
  have hsz0 := hsz
  rw [Try.params3] at hA hval
  obtain ⟨v0, vs0, d0, ds0, p0, q0, hargs, rfl, rfl, h0, r0⟩ := trodAll_cons hA
  obtain ⟨v1, vs1, d1, ds1, p1, q1, rfl, rfl, rfl, h1, r1⟩ := trodAll_cons r0
  obtain ⟨v2, vs2, d2, ds2, p2, q2, rfl, rfl, rfl, h2, r2⟩ := trodAll_cons r1
  obtain ⟨rfl, rfl, rfl⟩ := trodAll_nil r2
  obtain rfl : args = #[v0, v1, v2] := by cases args; simp_all
  obtain ⟨a0, b0, c0, p0_, q0_, rfl, w0, u0, z0, y0, t0⟩ := op_signed (hval 0 27 v0 rfl rfl) h0 (w_each hsz 0 27 _ (by rw [Try.params3]; rfl) rfl)
  obtain ⟨A1, a1, c1, rfl, w1, i1, z1⟩ := op_ints (hval 1 28 v1 rfl rfl) h1 (fun x hx => hlt x (by simp [hx])) (w_each hsz 1 28 _ (by rw [Try.params3]; rfl) rfl)
  obtain ⟨A2, a2, c2, rfl, w2, z2, y2, g2⟩ := op_signeds (hval 2 29 v2 rfl rfl) h2 (fun x hx => hlt x (by simp [hx])) (w_each hsz 2 29 _ (by rw [Try.params3]; rfl) rfl)
  exact slotSafe_walk W a0 b0 c0 p0_ q0_ A1 a1 c1 A2 a2 c2 w0 u0 z0 y0 t0 w1 i1 z1 w2 z2 y2 g2

set_option maxRecDepth 100000 in
theorem slotSafe_lifted (os : Os) (started : os.Started) (H : Type) (enc : TypeId × Value → H) :
    ReturnsInHanded {} Try.checked os 3 .any (Rows.slotSafeSpec.pre6 enc Try.prog Try.f3 Rows.slotSafeRow.domain false) (Rows.slotSafeSpec.post enc Try.prog Try.f3 false true false false) :=
  returns_of_walk (C := Try.checked) (s := Rows.slotSafeSpec) own started (by kernel_rfl) Try.func3
    (ChangeSpec.witness6 (enc := enc) (C := Try.checked) false ⟨#[], #[.agg #[.string ⟨#[]⟩, .int .i64 0, .string ⟨#[]⟩, .int .i64 0, .int .i64 0], .slice none 0 0, .slice none 0 0], []⟩ 8 (by kernel_rfl) (by kernel_rfl) (by kernel_rfl) (by kernel_rfl))
    laidOut (by kernel_rfl) (by kernel_rfl) Try.underlying4 rfl (fun ds h => by match ds, h with | [_, _, _], _ => rfl) (slotSafe_walks H enc)

theorem slotSafe_holds : Rows.SlotSafeSaid :=
  OpenClaim.holds_of_wide 3 Try.f3 rfl rfl rfl rfl rfl rfl rfl ⟨rfl, rfl, rfl, rfl, rfl⟩ rfl rfl rfl rfl rfl (by kernel_rfl) Try.func3 (by kernel_rfl)
    (of_decide_eq_true (by kernel_rfl)) (by unfold Func.isWrapper; rw [if_neg (of_decide_eq_false (by kernel_rfl))]; exact ⟨rfl, rfl⟩)
    (fun os started H enc _ => slotSafe_lifted os started H enc)

end Go.Proofs.Ytnocigkfhdnhfaa
