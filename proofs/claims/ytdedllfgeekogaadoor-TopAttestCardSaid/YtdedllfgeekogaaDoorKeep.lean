/- keeper: rule.Own, New, Ask, Give, Given, over any rules and nonces. keeper.Give over any nonces, and rules. -/
import Derived.Test.YtdedllfgeekogaaDoorRows
import Derived.Test.YtdedllfgeekogaaDoorNum
import Derived.Test.YtdedllfgeekogaaDoorBase
import Derived.Test.YtdedllfgeekogaaDoorMeas
import Derived.Test.YtdedllfgeekogaaDoorKey
import Derived.Test.YtdedllfgeekogaaDoorApp
import Derived.Test.YtdedllfgeekogaaDoorFoot
import Derived.Test.YtdedllfgeekogaaDoorBank
import Derived.Test.YtdedllfgeekogaaDoorRule
import Derived.Test.YtdedllfgeekogaaDoorOpR
import Derived.Test.YtdedllfgeekogaaDoorEvent
import Derived.Test.YtdedllfgeekogaaDoorJdPlain
import Derived.Test.YtdedllfgeekogaaDoorJudge
import Derived.Test.YtdedllfgeekogaaDoorNon2
import Derived.Test.YtdedllfgeekogaaDoorNon3
import Derived.WalkKit
import Derived.WalkSpells
import Derived.Lib.Hide
import Derived.Deep.DeepCutAuto
import Derived.Deep.RegionHeld3
import Derived.RegionTactic
import Derived.BigRegion
import Derived.Test.YtdedllfgeekogaaDoorOpE
namespace Go.Proofs.YtdedllfgeekogaaDoor
open Go.RowKit
set_option maxRecDepth 100000
set_option linter.unusedSimpArgs false
set_option linter.unusedVariables false

theorem infoInt_K : (Tryd.prog.info? 3).map (fun i => (i.zero, i.size, i.bytes)) = some (some (.int .i64 0), 1, 8) := by kernel_rfl
theorem infoRule_K : (Tryd.prog.info? 45).map (fun i => (i.zero, i.size, i.bytes)) = some (some (.agg #[.int .i64 0, .slice none 0 0]), 2, 32) := by kernel_rfl

/-- Rules all whose blocks lie from lo on, below hi. -/
def RulesIn (w : World) (lo hi : Nat) (A : Option Addr) (rs : List (Int × List Int)) : Prop :=
  ∀ i, i < rs.length → ∃ b off GA gc, A = some ⟨b, off, none⟩ ∧ lo ≤ b ∧ b < hi ∧ b < w.heap.size ∧ w.cell? ⟨b, off + i * 2, none⟩ = some (.int .i64 (rs.getD i (0, [])).1) ∧
    w.cell? ⟨b, off + i * 2 + 1, none⟩ = some (.slice GA (rs.getD i (0, [])).2.length gc) ∧ IntsAt w GA (rs.getD i (0, [])).2 ∧ ∀ a, GA = some a → (rs.getD i (0, [])).2 ≠ [] → lo ≤ a.block ∧ a.block < hi
theorem RulesIn.at_ {w : World} {lo hi : Nat} {A : Option Addr} {rs : List (Int × List Int)} (h : RulesIn w lo hi A rs) : RulesAt w A rs := fun i hi => by
  obtain ⟨b, off, GA, gc, h1, _, _, h4, h5, h6, h7, _⟩ := h i hi
  exact ⟨b, off, GA, gc, h1, h4, h5, h6, h7⟩
theorem IntsAt.but' {S : Nat → Prop} {w w' : World} {A : Option Addr} {xs : List Int} (h : IntsAt w A xs) (k : But S w w') (hn : ∀ a, A = some a → xs ≠ [] → ¬ S a.block) : IntsAt w' A xs := by
  by_cases hx : xs = []
  · subst hx; exact IntsAt.nil_ _ _
  · exact h.but k (fun a ha => hn a ha hx)
theorem RulesIn.but {S : Nat → Prop} {w w' : World} {lo hi : Nat} {A : Option Addr} {rs : List (Int × List Int)} (h : RulesIn w lo hi A rs) (k : But S w w') (hn : ∀ j, lo ≤ j → j < hi → ¬ S j) : RulesIn w' lo hi A rs := fun i hii => by
  obtain ⟨b, off, GA, gc, h1, h2, h3, h4, h5, h6, h7, h8⟩ := h i hii
  have e := k.block b h4 (hn b h2 h3)
  exact ⟨b, off, GA, gc, h1, h2, h3, Nat.lt_of_lt_of_le h4 k.size, (World.cell?_of_block (w := w) (a := ⟨b, off + i * 2, none⟩) e).trans h5, (World.cell?_of_block (w := w) (a := ⟨b, off + i * 2 + 1, none⟩) e).trans h6,
    h7.but' k (fun a ha hx => hn _ (h8 a ha hx).1 (h8 a ha hx).2), h8⟩
theorem RulesIn.below {w w' : World} {lo hi : Nat} {A : Option Addr} {rs : List (Int × List Int)} (h : RulesIn w lo hi A rs) (hb : Below w.heap.size w w') : RulesIn w' lo hi A rs :=
  h.but (below_but hb (fun _ => False)) (fun _ _ _ h => h)

theorem nilI (A : Option Addr) (n c : Nat) (w : World) : (binOp .eql 43 (.slice A n c) (.slice none 0 0)).run Tryd.prog w = .ok (.bool A.isNone) w := Lib.run_eql_slice_nil w _ _ A n c 0 0 Tryd.underlying43
theorem nilR (A : Option Addr) (n c : Nat) (w : World) : (binOp .eql 42 (.slice A n c) (.slice none 0 0)).run Tryd.prog w = .ok (.bool A.isNone) w := Lib.run_eql_slice_nil w _ _ A n c 0 0 Tryd.underlying42

set_option maxHeartbeats 1000000 in
theorem cloneInts_any (A : Option Addr) (c : Nat) (g : List Int) (w : World) (hA : IntsAt w A g) (hl : g.length ≤ 1000000) :
    Calls Tryd.prog 88 #[.slice A g.length c] w fun e w' => ∃ (A' : Option Addr) (c' : Nat), e = .returned (.slice A' g.length c') ∧ OwnI w' w.heap.size A' c' g ∧ Below w.heap.size w w' := by
  rcases A with _ | ad
  · obtain rfl : g = [] := by
      rcases g with _ | ⟨x, r⟩
      · rfl
      · obtain ⟨_, _, e, _⟩ := hA 0 (by simp)
        cases e
    have es := fun w => nilI none 0 c w
    clear hA
    go_enter Tryd.func88, Tryd.ntmps88
    go_wp2_with fail
    go_ret
    exact ⟨none, 0, rfl, OwnI.start _ _, Below.refl _ _⟩
  · have es := fun w => nilI (some ad) g.length c w
    have HA := Lib.hid hA
    clear hA
    go_enter Tryd.func88, Tryd.ntmps88
    go_wp2_with (at_builtin; refine app_ints rfl _ _ rfl w.heap.size _ _ [] rfl (World.ownsRow_made w #[] 0 (Nat.le_refl _) (Nat.zero_le _) (by simp)) (some ad) c g rfl (HA.out.below (grow_alloc (grow_refl _) _)) (by simp; omega) (by simp) ?_; intro A2 c2 zs w4 hz2 ho2 hb4)
    obtain rfl : zs = [] ++ g := hz2.out
    go_ret
    exact ⟨A2, c2, rfl, ho2, (by repeat (first | (with_reducible exact grow_refl _) | (with_reducible assumption) | (with_reducible refine grow_alloc ?_ _) | (with_reducible refine grow_set ?_ (by first | exact Nat.le_refl _ | (simp; done) | (simp; omega) | omega) _) | (with_reducible refine grow_drewN ?_ _) | (with_reducible refine grow_drew ?_) | (with_reducible refine grow_step ?_ (by assumption)) | (with_reducible refine grow_base ?_ (by assumption))))⟩


set_option maxHeartbeats 1000000 in
theorem cloneRules_any (A : Option Addr) (c : Nat) (rs : List (Int × List Int)) (w : World) (hA : RulesAt w A rs) (hl : rs.length ≤ 1000000) :
    Calls Tryd.prog 87 #[.slice A rs.length c] w fun e w' => ∃ (A' : Option Addr) (c' : Nat) (cs : List Value), e = .returned (.slice A' rs.length c') ∧ OwnC w' w.heap.size 45 2 A' c' rs.length cs ∧ RCells w rs cs ∧ Below w.heap.size w w' := by
  rcases A with _ | ad
  · obtain rfl : rs = [] := by
      rcases rs with _ | ⟨x, r⟩
      · rfl
      · obtain ⟨_, _, _, _, e, _⟩ := hA 0 (by simp)
        cases e
    have es := fun w => nilR none 0 c w
    clear hA
    go_enter Tryd.func87, Tryd.ntmps87
    go_wp2_with fail
    go_ret
    exact ⟨none, 0, [], rfl, OwnC.start _ _ _ _, RCells.nil_ _, Below.refl _ _⟩
  · have es := fun w => nilR (some ad) rs.length c w
    obtain ⟨cs, hR, hC, h1⟩ := hA.rcells
    have HC := Lib.hid hC
    have HR := Lib.hid hR
    have H1 := Lib.hid h1
    have HL : Hid (cs.length = rs.length * 2) := Lib.hid hR.1
    clear hA hC hR h1
    go_enter Tryd.func87, Tryd.ntmps87
    go_wp2_with (at_builtin; refine app_cells rfl _ _ 42 45 rfl Tryd.underlying42 infoRule_K rfl (by decide) w.heap.size _ _ 0 [] rfl (World.ownsRow_made w #[] 0 (Nat.le_refl _) (Nat.zero_le _) (by simp)) (some ad) c rs.length cs rfl (HC.out.below (grow_alloc (grow_refl _) _)) HL.out H1.out (by omega) (by omega) (by simp) ?_; intro A2 c2 k2 w4 hk2 ho2 hb4)
    obtain rfl : k2 = 0 + rs.length := hk2.out
    obtain ⟨N, hN⟩ : ∃ N, 0 + rs.length = N := ⟨_, rfl⟩
    rw [hN, List.nil_append] at ho2
    rw [hN]
    obtain rfl : N = rs.length := by omega
    go_ret
    exact ⟨A2, c2, cs, rfl, ho2, HR.out, (by repeat (first | (with_reducible exact grow_refl _) | (with_reducible assumption) | (with_reducible refine grow_alloc ?_ _) | (with_reducible refine grow_set ?_ (by first | exact Nat.le_refl _ | (simp; done) | (simp; omega) | omega) _) | (with_reducible refine grow_drewN ?_ _) | (with_reducible refine grow_drew ?_) | (with_reducible refine grow_step ?_ (by assumption)) | (with_reducible refine grow_base ?_ (by assumption))))⟩

/-- Cells of rules, all whose lists lie outside the block g, and from lo on where they have been made anew (the first k). -/
def RCG (w : World) (lo g k : Nat) (rs : List (Int × List Int)) (cs : List Value) : Prop :=
  cs.length = rs.length * 2 ∧ ∀ i, i < rs.length → ∃ GA gc, cs[i * 2]? = some (.int .i64 (rs.getD i (0, [])).1) ∧ cs[i * 2 + 1]? = some (.slice GA (rs.getD i (0, [])).2.length gc) ∧ IntsAt w GA (rs.getD i (0, [])).2 ∧
    (∀ a, GA = some a → (rs.getD i (0, [])).2 ≠ [] → a.block ≠ g ∧ a.block < w.heap.size ∧ (i < k → lo ≤ a.block))
theorem RCG.below {w w' : World} {lo g k : Nat} {rs : List (Int × List Int)} {cs : List Value} (h : RCG w lo g k rs cs) (hb : Below w.heap.size w w') : RCG w' lo g k rs cs :=
  ⟨h.1, fun i hi => by obtain ⟨GA, gc, h1, h2, h3, h4⟩ := h.2 i hi; exact ⟨GA, gc, h1, h2, h3.below hb, fun a ha hx => ⟨(h4 a ha hx).1, Nat.lt_of_lt_of_le (h4 a ha hx).2.1 hb.size, (h4 a ha hx).2.2⟩⟩⟩
theorem ints_lt {w : World} {A : Option Addr} {xs : List Int} (h : IntsAt w A xs) (hx : xs ≠ []) : ∀ a, A = some a → a.block < w.heap.size := fun a ha => by
  obtain ⟨b, off, e, hl, _⟩ := h 0 (by rcases xs with _ | _; exact absurd rfl hx; simp)
  rw [ha] at e
  injection e with e
  subst e
  exact hl
theorem RCG.of {w w' : World} {lo g : Nat} {rs : List (Int × List Int)} {cs : List Value} (h : RCells w rs cs) (hb : Below w.heap.size w w') (hg : w.heap.size ≤ g) : RCG w' lo g 0 rs cs :=
  ⟨h.1, fun i hi => by
    obtain ⟨GA, gc, h1, h2, h3⟩ := h.2 i hi
    refine ⟨GA, gc, h1, h2, h3.below hb, fun a ha hx => ?_⟩
    have hl := ints_lt h3 hx a ha
    exact ⟨by omega, Nat.lt_of_lt_of_le hl hb.size, fun h => absurd h (by omega)⟩⟩
theorem RCG.step {w : World} {lo g k : Nat} {rs : List (Int × List Int)} {cs : List Value} (h : RCG w lo g k rs cs) (hk : k < rs.length) {GA : Option Addr} {gc : Nat} (hI : IntsAt w GA (rs.getD k (0, [])).2) (hn : ∀ a, GA = some a → (rs.getD k (0, [])).2 ≠ [] → a.block ≠ g ∧ lo ≤ a.block) (u : Value) (hu : u = .slice GA (rs.getD k (0, [])).2.length gc) (p : Addr) (hp : p.block = g) :
    RCG (w.setCell p u) lo g (k + 1) rs (cs.set (k * 2 + 1) u) := by
  have kb : But (fun j => j = g) w (w.setCell p u) := (But.refl _ w).setCell (Or.inl hp) u
  refine ⟨by rw [List.length_set]; exact h.1, fun i hi => ?_⟩
  by_cases hik : i = k
  · subst hik
    obtain ⟨GA', gc', h1, h2, h3, h4⟩ := h.2 i hi
    have hlen := h.1
    refine ⟨GA, gc, ?_, ?_, hI.but' kb (fun a ha hx => (hn a ha hx).1), fun a ha hx => ⟨(hn a ha hx).1, by have := ints_lt hI hx a ha; simpa [World.setCell] using this, fun _ => (hn a ha hx).2⟩⟩
    · rw [List.getElem?_set_ne (by omega)]; exact h1
    · rw [List.getElem?_set_self (by omega), hu]
  · obtain ⟨GA', gc', h1, h2, h3, h4⟩ := h.2 i hi
    refine ⟨GA', gc', ?_, ?_, h3.but' kb (fun a ha hx => (h4 a ha hx).1), fun a ha hx => ⟨(h4 a ha hx).1, by have := (h4 a ha hx).2.1; simpa [World.setCell] using this, fun h => (h4 a ha hx).2.2 (by omega)⟩⟩
    · rw [List.getElem?_set_ne (by omega)]; exact h1
    · rw [List.getElem?_set_ne (by omega)]; exact h2
theorem RCG.rules {w : World} {lo g : Nat} {rs : List (Int × List Int)} {cs : List Value} (h : RCG w lo g rs.length rs cs) (hc : CellsAt w (some ⟨g, 0, none⟩) cs) (hg : lo ≤ g) : RulesIn w lo w.heap.size (some ⟨g, 0, none⟩) rs := fun i hi => by
  obtain ⟨GA, gc, h1, h2, h3, h4⟩ := h.2 i hi
  obtain ⟨b, off, e, hb, c1⟩ := hc _ _ h1
  obtain ⟨b', off', e', _, c2⟩ := hc _ _ h2
  rw [e] at e'
  injection e' with e'; injection e' with q1 q2; subst q1; subst q2
  injection e with e; injection e with q1 q2; subst q1; subst q2
  exact ⟨g, 0, GA, gc, rfl, hg, hb, hb, c1, by rw [← Nat.add_assoc] at c2; exact c2, h3, fun a ha hx => ⟨(h4 a ha hx).2.2 hi, (h4 a ha hx).2.1⟩⟩

theorem ownI_at {w : World} {base : Nat} {A : Option Addr} {c : Nat} {xs : List Int} (h : OwnI w base A c xs) : ∀ a, A = some a → base ≤ a.block := fun a ha => by
  subst ha
  rcases h.2 with ⟨h2, _⟩ | ⟨g, cap, cur, hv, hg, _⟩
  · cases h2
  · injection hv with hv _ _
    injection hv with hv
    subst hv
    exact hg
def OwnPost (w : World) (rs : List (Int × List Int)) (e : Ending) (w' : World) : Prop := ∃ (A' : Option Addr) (c' : Nat), e = .returned (.slice A' rs.length c') ∧ rs.length ≤ c' ∧ RulesIn w' w.heap.size w'.heap.size A' rs ∧ Below w.heap.size w w'
theorem OwnC.frzK {w : World} {base : Nat} {e : TypeId} {size : Nat} {b : Nat} {c n : Nat} {cs : List Value} (h : OwnC w base e size (some ⟨b, 0, none⟩) c n cs) : ∀ i, w.frozen? ⟨b, i, none⟩ = false := fun i => by
  rcases h.2 with ⟨h2, _⟩ | ⟨g, cap, cur, hv, _, hh, _⟩
  · cases h2
  · injection hv with hv _ _
    injection hv with hv
    injection hv with hv
    subst hv
    simp [World.frozen?, hh]

set_option maxHeartbeats 2000000 in
theorem ruleOwn_any (A : Option Addr) (c : Nat) (rs : List (Int × List Int)) (w : World) (hA : RulesAt w A rs) (hl : rs.length ≤ 1000000) (hg : ∀ r ∈ rs, r.2.length ≤ 1000000) :
    Calls Tryd.prog 46 #[.slice A rs.length c] w (OwnPost w rs) := by
  have HG := Lib.hid hg
  clear hg
  go_enter Tryd.func46, Tryd.ntmps46
  go_wp2_with fail
  refine (cloneRules_any A c rs _ hA hl).mono ?_
  rintro e w1 ⟨A1, c1, cs, rfl, ho, hR, hb1⟩
  have HB1 := Lib.hid hb1
  have HLC : Hid (rs.length ≤ c1) := Lib.hid (by
    rcases Nat.eq_zero_or_pos rs.length with h0 | h0
    · omega
    · rcases ho.2 with ⟨_, h1⟩ | ⟨g, cap, cur, hv, _, _, h1, _⟩
      · omega
      · injection hv with _ _ hv
        subst hv
        exact h1)
  by_cases h0 : rs.length = 0
  · obtain rfl := List.eq_nil_of_length_eq_zero h0
    clear ho hR hA h0
    go_wp2_with fail
    go_loop [10] (fun i => i = .int .i64 0) (fun _ => 0)
    case atStart => rfl
    case round =>
      obtain rfl := hrel
      go_wp2_with fail
      go_ret
      exact ⟨A1, c1, rfl, Nat.zero_le _, fun i hi => absurd hi (by simp), HB1.out⟩
  · obtain ⟨g, cap, hv, hcap, hgl⟩ := World.ownsRow.form ho (by omega)
    clear hcap
    injection hv with hv _ hv2
    subst hv
    subst hv2
    have hgw : w.heap.size ≤ g := by
      have := (ho.at_ _ rfl).1
      exact this
    have HR := Lib.hid (RCG.of (lo := w.heap.size) (g := g) hR hb1 hgw)
    have HO := Lib.hid ho
    clear ho hR hA hb1
    go_wp2_with fail
    go_loopw [4, 5, 10] (fun _ _ i wr => ∃ (k : Nat) (cs : List Value), k ≤ rs.length ∧ i = .int .i64 k ∧ Hid (RCG wr w.heap.size g k rs cs) ∧ Hid (OwnC wr w.heap.size 45 2 (some ⟨g, 0, none⟩) c1 rs.length cs) ∧ Below w.heap.size w wr) (fun _ _ i _ => rs.length - (intOf i).toNat)
    case atStart => exact ⟨0, cs, by omega, rfl, HR, HO, HB1.out⟩
    case round =>
      clear HR HO
      obtain ⟨k, cs, hk, rfl, HR, HO, hbr⟩ := hrel
      by_cases hlt : k < rs.length
      · have g0 : (k : Int) < (rs.length : Int) := by omega
        obtain ⟨GA, gc, h1, h2, h3, h4⟩ := HR.out.2 k hlt
        obtain ⟨b1, o1, e1, lb1, c1_⟩ := HO.out.cells _ _ h1
        obtain ⟨b2, o2, e2, lb2, c2_⟩ := HO.out.cells _ _ h2
        injection e1 with e1
        injection e1 with q1 q2
        subst q1; subst q2
        injection e2 with e2
        injection e2 with q1 q2
        subst q1; subst q2
        have f1 := HO.out.frzK
        have HGL : Hid ((rs.getD k (0, [])).2.length ≤ 1000000) := Lib.hid (HG.out _ (by rw [List.getD_eq_getElem?_getD, List.getElem?_eq_getElem hlt]; exact List.getElem_mem hlt))
        obtain ⟨⟨x, gl⟩, hz⟩ : ∃ z, rs.getD k (0, []) = z := ⟨_, rfl⟩
        have HZ := Lib.hid hz
        rw [hz] at h1 h2 h3 h4 c1_ c2_ HGL
        simp only [Nat.zero_add] at h1 h2 h3 h4 c1_ c2_ HGL
        have HI := Lib.hid h3
        have HX := Lib.hid (Box.new wr 45 #[.int .i64 x, .slice GA gl.length gc])
        clear hz h1 h2 h3 h4
        go_wp2_with fail
        have hbx := grow_alloc (grow_refl wr) (.cells #[.int .i64 x, .slice GA gl.length gc] 45)
        refine (cloneInts_any GA gc gl _ (HI.out.below hbx) HGL.out).mono ?_
        rintro e w2 ⟨A2, c2, rfl, ho2, hb2⟩
        have hb2' : Below wr.heap.size wr w2 := grow_step hbx hb2
        have HO2 := Lib.hid (HO.out.below hb2')
        have HR2 := Lib.hid (HR.out.below hb2')
        have HI2 := Lib.hid ho2
        have lb3 : g < w2.heap.size := Nat.lt_of_lt_of_le lb1 hb2'.size
        have f2 := HO2.out.frzK
        have hbr2 : Below w.heap.size w w2 := grow_step hbr hb2'
        have hgr : wr.heap.size < (wr.alloc (.cells #[.int .i64 x, .slice GA gl.length gc] 45)).heap.size := by simp
        have HA2 : Hid (∀ a, A2 = some a → (rs.getD k (0, [])).2 ≠ [] → a.block ≠ g ∧ w.heap.size ≤ a.block) := Lib.hid (fun a ha hx => by
          have h := ownI_at ho2 a ha
          have := hbr.size
          constructor <;> omega)
        have c3 : w2.cell? ⟨g, k * 2 + 1, none⟩ = some (.slice GA gl.length gc) := (hb2'.cell (p := ⟨g, k * 2 + 1, none⟩) lb1).trans c2_
        clear c1_ c2_ f1 ho2 hb2
        go_wp2_with fail
        go_roundw
        case rel =>
          refine ⟨k + 1, cs.set (k * 2 + 1) (.slice A2 gl.length c2), by omega, by go_num, Lib.hid ?_, Lib.hid ?_, ?_⟩
          · exact HR2.out.step hlt (GA := A2) (gc := c2) (by rw [HZ.out]; exact HI2.out.ints) HA2.out _ (by rw [HZ.out]) ⟨g, k * 2 + 1, none⟩ rfl
          · exact (World.ownsRow.stored HO2.out (k * 2 + 1) (.slice A2 gl.length c2)).1
          · exact hbr2.setCell hgw _
        case measure => simp [intOf]; omega
      · go_wp2_with fail
        go_ret
        obtain rfl : k = rs.length := by omega
        have hf := HR.out.rules HO.out.cells (HO.out.at_ _ rfl).1
        exact ⟨_, _, rfl, HLC.out, hf, hbr⟩


def NewPost (p s z : Int) (rs : List (Int × List Int)) (w : World) (e : Ending) (w' : World) : Prop :=
  ∃ (g lo k : Nat) (A' : Option Addr) (c' : Nat), e = .returned (.tuple #[.pointer (some ⟨k, 0, none⟩), errV 0]) ∧ Box w' g 140 #[.int .i64 z, .int .i64 0, .slice none 0 0] ∧ Box w' k 107 #[.pointer (some ⟨g, 0, none⟩), .int .i64 p, .int .i64 s, .int .i64 0, .slice A' rs.length c'] ∧
    rs.length ≤ c' ∧ RulesIn w' lo k A' rs ∧ w.heap.size ≤ g ∧ g < lo ∧ lo ≤ k ∧ Below w.heap.size w w'
set_option maxHeartbeats 2000000 in
theorem keeperNew_on (p s z : Int) (A : Option Addr) (rs : List (Int × List Int)) (rc : Nat) (w : World) (h1 : okIn p = true) (h2 : okM s = true) (h3 : okM z = true) (hA : RulesAt w A rs) (hrc : rs.length ≤ rc) (h0 : rulesE rs = 0) (hl : rs.length ≤ 1000000) (hg : ∀ r ∈ rs, r.2.length ≤ 1000000) :
    Calls Tryd.prog 12 #[.int .i64 p, .int .i64 s, .int .i64 z, .slice A rs.length rc] w (NewPost p s z rs w) := by
  have en := fun k w => err_neq k w
  have gn := fun o k w => err_guard_neq o k w
  have HG := Lib.hid hg
  have HA := Lib.hid hA
  have HE := Lib.hid h0
  clear hg hA h0
  go_enter Tryd.func12, Tryd.ntmps12
  go_wp2_with (first | (go_at_call 43; refine (in_any _ _).mono ?_; rintro e w' ⟨rfl, rfl⟩; rw [h1]) | (go_at_call 44; refine (mIs_any _ _).mono ?_; rintro e w' ⟨rfl, rfl⟩; rw [h2]) | (go_at_call 45; refine (nNew_yes _ _ h3).mono ?_; rintro e w' ⟨rfl, rfl⟩))
  have HBN := Lib.hid (Box.new w 140 #[.int .i64 z, .int .i64 0, .slice none 0 0])
  have hb0 : Below w.heap.size w (w.alloc (.cells #[.int .i64 z, .int .i64 0, .slice none 0 0] 140)) := grow_alloc (grow_refl _) _
  refine (ruleCheck_any A rc rs _ (HA.out.below hb0) hrc (by omega) (fun r hr => by have := HG.out r hr; omega)).mono ?_
  rintro e w1 ⟨rfl, hb1⟩
  rw [HE.out]
  have HB1 := Lib.hid (HBN.out.below hb1)
  have hbw1 : Below w.heap.size w w1 := grow_step hb0 hb1
  have hlt1 := HB1.out.lt
  clear hb0 hb1 HBN
  go_wp2_with fail
  refine (ruleOwn_any A rc rs _ (HA.out.below hbw1) hl HG.out).mono ?_
  rintro e w2 ⟨A', c', rfl, hcc, hR2, hb2⟩
  have HB2 := Lib.hid (HB1.out.below hb2)
  have HR2 := Lib.hid hR2
  have HC := Lib.hid hcc
  have hbw2 : Below w.heap.size w w2 := grow_step hbw1 hb2
  have hs2 := hb2.size
  clear hb2 hR2 hcc
  go_wp2_with fail
  go_ret2
  exact ⟨w.heap.size, w1.heap.size, w2.heap.size, A', c', rfl, HB2.out.alloc_ _, Box.new _ _ _, HC.out, HR2.out.below (grow_alloc (grow_refl _) _), Nat.le_refl _, hlt1, hs2, grow_alloc hbw2 _⟩

theorem keeperNew_off (p s z : Int) (A : Option Addr) (rs : List (Int × List Int)) (rc : Nat) (w : World) (h : (okIn p && okM s && okM z) = false) :
    Calls Tryd.prog 12 #[.int .i64 p, .int .i64 s, .int .i64 z, .slice A rs.length rc] w fun e w' => e = .returned (.tuple #[.pointer none, errV 1]) ∧ Below w.heap.size w w' := by
  have en := fun k w => err_neq k w
  have gn := fun o k w => err_guard_neq o k w
  cases h1 : okIn p
  · go_enter Tryd.func12, Tryd.ntmps12
    go_wp2_with (go_at_call 43; refine (in_any _ _).mono ?_; rintro e w' ⟨rfl, rfl⟩; rw [h1])
    go_ret2
    exact ⟨rfl, (by repeat (first | (with_reducible exact grow_refl _) | (with_reducible assumption) | (with_reducible refine grow_alloc ?_ _) | (with_reducible refine grow_set ?_ (by first | exact Nat.le_refl _ | (simp; done) | (simp; omega) | omega) _) | (with_reducible refine grow_drewN ?_ _) | (with_reducible refine grow_drew ?_) | (with_reducible refine grow_step ?_ (by assumption)) | (with_reducible refine grow_base ?_ (by assumption))))⟩
  · cases h2 : okM s
    · go_enter Tryd.func12, Tryd.ntmps12
      go_wp2_with (first | (go_at_call 43; refine (in_any _ _).mono ?_; rintro e w' ⟨rfl, rfl⟩; rw [h1]) | (go_at_call 44; refine (mIs_any _ _).mono ?_; rintro e w' ⟨rfl, rfl⟩; rw [h2]))
      go_ret2
      exact ⟨rfl, (by repeat (first | (with_reducible exact grow_refl _) | (with_reducible assumption) | (with_reducible refine grow_alloc ?_ _) | (with_reducible refine grow_set ?_ (by first | exact Nat.le_refl _ | (simp; done) | (simp; omega) | omega) _) | (with_reducible refine grow_drewN ?_ _) | (with_reducible refine grow_drew ?_) | (with_reducible refine grow_step ?_ (by assumption)) | (with_reducible refine grow_base ?_ (by assumption))))⟩
    · have h3 : okM z = false := by rw [h1, h2] at h; exact h
      go_enter Tryd.func12, Tryd.ntmps12
      go_wp2_with (first | (go_at_call 43; refine (in_any _ _).mono ?_; rintro e w' ⟨rfl, rfl⟩; rw [h1]) | (go_at_call 44; refine (mIs_any _ _).mono ?_; rintro e w' ⟨rfl, rfl⟩; rw [h2]) | (go_at_call 45; refine (nNew_no _ _ h3).mono ?_; rintro e w' ⟨rfl, rfl⟩))
      go_ret2
      exact ⟨rfl, (by repeat (first | (with_reducible exact grow_refl _) | (with_reducible assumption) | (with_reducible refine grow_alloc ?_ _) | (with_reducible refine grow_set ?_ (by first | exact Nat.le_refl _ | (simp; done) | (simp; omega) | omega) _) | (with_reducible refine grow_drewN ?_ _) | (with_reducible refine grow_drew ?_) | (with_reducible refine grow_step ?_ (by assumption)) | (with_reducible refine grow_base ?_ (by assumption))))⟩
set_option maxHeartbeats 1000000 in
theorem keeperNew_rules (p s z : Int) (A : Option Addr) (rs : List (Int × List Int)) (rc : Nat) (w : World) (h1 : okIn p = true) (h2 : okM s = true) (h3 : okM z = true) (hA : RulesAt w A rs) (hrc : rs.length ≤ rc) (E : Int) (hE : rulesE rs = E) (h0 : E ≠ 0) (hl : rs.length ≤ 9223372036854775806) (hg : ∀ r ∈ rs, r.2.length ≤ 9223372036854775806) :
    Calls Tryd.prog 12 #[.int .i64 p, .int .i64 s, .int .i64 z, .slice A rs.length rc] w fun e w' => e = .returned (.tuple #[.pointer none, errV E]) ∧ Below w.heap.size w w' := by
  have en := fun k w => err_neq k w
  have gn := fun o k w => err_guard_neq o k w
  have HG := Lib.hid hg
  have HA := Lib.hid hA
  have HE := Lib.hid hE
  have t : (E != 0) = true := by simp [h0]
  clear hg hA hE h0
  go_enter Tryd.func12, Tryd.ntmps12
  go_wp2_with (first | (go_at_call 43; refine (in_any _ _).mono ?_; rintro e w' ⟨rfl, rfl⟩; rw [h1]) | (go_at_call 44; refine (mIs_any _ _).mono ?_; rintro e w' ⟨rfl, rfl⟩; rw [h2]) | (go_at_call 45; refine (nNew_yes _ _ h3).mono ?_; rintro e w' ⟨rfl, rfl⟩))
  have hb0 : Below w.heap.size w (w.alloc (.cells #[.int .i64 z, .int .i64 0, .slice none 0 0] 140)) := grow_alloc (grow_refl _) _
  refine (ruleCheck_any A rc rs _ (HA.out.below hb0) hrc hl HG.out).mono ?_
  rintro e w1 ⟨rfl, hb1⟩
  rw [HE.out]
  have hbw1 : Below w.heap.size w w1 := grow_step hb0 hb1
  clear hb0 hb1
  go_wp2_with fail
  go_ret2
  exact ⟨rfl, hbw1⟩

/-- A keeper at k: its nonces at g (their list in b), its rules between lo and k. -/
structure KeptAt (w : World) (p s : Int) (rs : List (Int × List Int)) (g b lo k : Nat) (A' : Option Addr) (c' : Nat) (la : Int) (ma : Nat) (A : Option Addr) (c : Nat) (xs : List Int) (n : Int) : Prop where
  non : NonceIs w 140 g b la ma A c xs
  box : Box w k 107 #[.pointer (some ⟨g, 0, none⟩), .int .i64 p, .int .i64 s, .int .i64 n, .slice A' rs.length c']
  rul : RulesIn w lo k A' rs
  glo : g < lo
  lok : lo ≤ k
  bk : b = g ∨ k < b
  rc : rs.length ≤ c'
def KFoot (g b k : Nat) : Nat → Prop := fun j => j = g ∨ j = b ∨ j = k
theorem KeptAt.below {w w' : World} {p s : Int} {rs : List (Int × List Int)} {g b lo k : Nat} {A' : Option Addr} {c' : Nat} {la : Int} {ma : Nat} {A : Option Addr} {c : Nat} {xs : List Int} {n : Int} (h : KeptAt w p s rs g b lo k A' c' la ma A c xs n) (hb : Below w.heap.size w w') : KeptAt w' p s rs g b lo k A' c' la ma A c xs n :=
  ⟨h.non.below hb, h.box.below hb, h.rul.below hb, h.glo, h.lok, h.bk, h.rc⟩
theorem KeptAt.but {S : Nat → Prop} {w w' : World} {p s : Int} {rs : List (Int × List Int)} {g b lo k : Nat} {A' : Option Addr} {c' : Nat} {la : Int} {ma : Nat} {A : Option Addr} {c : Nat} {xs : List Int} {n : Int} (h : KeptAt w p s rs g b lo k A' c' la ma A c xs n) (hb : But S w w') (h1 : ∀ j, g ≤ j → j ≤ k → ¬ S j) (h2 : ¬ S b) : KeptAt w' p s rs g b lo k A' c' la ma A c xs n :=
  ⟨h.non.but hb (h1 g (Nat.le_refl _) (by have := h.glo; have := h.lok; omega)) h2, h.box.but hb (h1 k (by have := h.glo; have := h.lok; omega) (Nat.le_refl _)), h.rul.but hb (fun j h3 h4 => h1 j (by have := h.glo; omega) (by omega)), h.glo, h.lok, h.bk, h.rc⟩

section
variable (w : World) (p s : Int) (rs : List (Int × List Int)) (g b lo k : Nat) (A' : Option Addr) (c' : Nat) (la : Int) (ma : Nat) (A : Option Addr) (c : Nat) (xs : List Int) (n : Int) (hK : KeptAt w p s rs g b lo k A' c' la ma A c xs n)
include hK
set_option maxHeartbeats 1000000 in
theorem kGiven_any : Calls Tryd.prog 29 #[.pointer (some ⟨k, 0, none⟩)] w fun e w' => e = .returned (.int .i64 n) ∧ w = w' := by
  have cK := hK.box.cell
  have lK := hK.box.lt
  clear hK
  go_enter Tryd.func29, Tryd.ntmps29
  go_wp2_with fail
  go_ret
  exact ⟨rfl, rfl⟩
def AskPost (e : Ending) (w' : World) : Prop := ∃ A2 c2 b', e = .returned (.tuple #[.int .i64 (pairM la ma), errV 0]) ∧ KeptAt w' p s rs g b' lo k A' c' (pairM la ma) (ma + 1) A2 c2 (xs ++ [pairM la ma]) n ∧ (b' = b ∨ w.heap.size ≤ b') ∧ But (KFoot g b k) w w'
set_option maxHeartbeats 1000000 in
theorem kAsk_more (hl : okM la = true) (hm : ma < 30) (hx : xs.length < 8) : Calls Tryd.prog 13 #[.pointer (some ⟨k, 0, none⟩)] w (AskPost w p s rs g b lo k A' c' la ma xs n) := by
  have HK := Lib.hid hK
  have cK := hK.box.cell
  have lK := hK.box.lt
  have d1 := hK.glo
  have d2 := hK.lok
  have d3 := hK.bk
  clear hK
  go_enter Tryd.func13, Tryd.ntmps13
  go_wp2_with fail
  refine (nIssue_more g b la ma A c xs _ HK.out.non hl hm hx).mono ?_
  rintro e w1 ⟨A2, c2, b', rfl, hN, hb', hk⟩
  have h1 := HK.out.box.but hk (by intro h; rcases h with h | h <;> omega)
  have h2 := HK.out.rul.but hk (by intro j j1 j2 h; rcases h with h | h <;> omega)
  have h3 := HK.out.rc
  have h4 : But (KFoot g b k) w w1 := hk.mono (fun j _ h => by rcases h with h | h; exact Or.inl h; exact Or.inr (Or.inl h))
  have HF : Hid (AskPost w p s rs g b lo k A' c' la ma xs n (.returned (.tuple #[.int .i64 (pairM la ma), errV 0])) w1) := Lib.hid ⟨A2, c2, b', rfl, ⟨hN, h1, h2, d1, d2, by omega, h3⟩, hb', h4⟩
  clear h1 h2 h3 h4 hk hN hb'
  go_wp2_with fail
  go_ret2
  exact HF.out
set_option maxHeartbeats 1000000 in
theorem kAsk_full (hx : xs.length = 8 ∨ xs.length < 8 ∧ ma = 30) : Calls Tryd.prog 13 #[.pointer (some ⟨k, 0, none⟩)] w fun e w' => e = .returned (.tuple #[.int .i64 0, errV 4]) ∧ w = w' := by
  have HK := Lib.hid hK
  have HX := Lib.hid hx
  have cK := hK.box.cell
  have lK := hK.box.lt
  clear hK hx
  go_enter Tryd.func13, Tryd.ntmps13
  go_wp2_with fail
  refine (nIssue_full g b la ma A c xs _ HK.out.non HX.out).mono ?_
  rintro e w1 ⟨rfl, rfl⟩
  go_wp2_with fail
  go_ret2
  exact ⟨rfl, rfl⟩
end

end Go.Proofs.YtdedllfgeekogaaDoor

namespace Go.Proofs.YtdedllfgeekogaaDoor
open Go.RowKit
set_option maxRecDepth 100000
set_option linter.unusedSimpArgs false
set_option linter.unusedVariables false

theorem KeptAt.foot {w w' : World} {p s : Int} {rs : List (Int × List Int)} {g b lo k : Nat} {A' : Option Addr} {c' : Nat} {la : Int} {ma : Nat} {A : Option Addr} {c : Nat} {xs : List Int} {n : Int} (h : KeptAt w p s rs g b lo k A' c' la ma A c xs n) (hk : But (Foot g b) w w')
    {b' : Nat} {la' : Int} {ma' : Nat} {A2 : Option Addr} {c2 : Nat} {ys : List Int} (hN : NonceIs w' 140 g b' la' ma' A2 c2 ys) (hb : b' = g ∨ k < b') : KeptAt w' p s rs g b' lo k A' c' la' ma' A2 c2 ys n := by
  have d1 := h.glo
  have d2 := h.lok
  have d3 := h.bk
  exact ⟨hN, h.box.but hk (by intro q; rcases q with q | q <;> omega), h.rul.but hk (by intro j j1 j2 q; rcases q with q | q <;> omega), d1, d2, hb, h.rc⟩
theorem KeptAt.drew {w : World} {p s : Int} {rs : List (Int × List Int)} {g b lo k : Nat} {A' : Option Addr} {c' : Nat} {la : Int} {ma : Nat} {A : Option Addr} {c : Nat} {xs : List Int} {n : Int} (h : KeptAt w p s rs g b lo k A' c' la ma A c xs n) : KeptAt w.drew p s rs g b lo k A' c' la ma A c xs n := h.below (grow_drew (grow_refl _))
/-- given once more. -/
theorem KeptAt.given {w : World} {p s : Int} {rs : List (Int × List Int)} {g b lo k : Nat} {A' : Option Addr} {c' : Nat} {la : Int} {ma : Nat} {A : Option Addr} {c : Nat} {xs : List Int} {n : Int} (h : KeptAt w p s rs g b lo k A' c' la ma A c xs n) (x : Int) : KeptAt (w.setCell ⟨k, 3, none⟩ (.int .i64 x)) p s rs g b lo k A' c' la ma A c xs x := by
  have d1 := h.glo
  have d2 := h.lok
  have d3 := h.bk
  have hk : But (fun j => j = k) w (w.setCell ⟨k, 3, none⟩ (.int .i64 x)) := (But.refl (fun j => j = k) w).setCell (p := ⟨k, 3, none⟩) (Or.inl rfl) _
  exact ⟨h.non.but hk (by intro q; omega) (by intro q; omega), by have q := h.box.set_ 3 (.int .i64 x); simpa using q, h.rul.but hk (by intro j j1 j2 q; omega), d1, d2, d3, h.rc⟩

theorem EvsAt.but' {S : Nat → Prop} {w w' : World} {A : Option Addr} {es : List (Int × Int)} (h : EvsAt w A es) (k : But S w w') (hn : ∀ a, A = some a → es ≠ [] → ¬ S a.block) : EvsAt w' A es := fun i hi => by
  obtain ⟨b, off, e, hlt, h1, h2⟩ := h i hi
  have hx : es ≠ [] := fun h => by subst h; simp at hi
  have eb := k.block b hlt (hn _ e hx)
  exact ⟨b, off, e, Nat.lt_of_lt_of_le hlt k.size, (World.cell?_of_block (w := w) (a := ⟨b, off + i * 2, none⟩) eb).trans h1, (World.cell?_of_block (w := w) (a := ⟨b, off + i * 2 + 1, none⟩) eb).trans h2⟩

def giveE (p n m d q a : Int) (es : List (Int × Int)) (rs : List (Int × List Int)) (xs : List Int) : Int := if hasI xs n = true then sureE p n m d q a n es rs else 5
def giveX (xs : List Int) (n : Int) : List Int := if hasI xs n = true then xs.erase n else xs
def GivePost (w : World) (p s : Int) (rs : List (Int × List Int)) (g b lo k : Nat) (A' : Option Addr) (c' : Nat) (la : Int) (ma : Nat) (A : Option Addr) (c : Nat) (ys : List Int) (n : Nat) (E : Int) (e : Ending) (w' : World) : Prop :=
  e = .returned (.tuple #[.int .i64 (if E = 0 then s else 0), errV E]) ∧ KeptAt w' p s rs g b lo k A' c' la ma A c ys ((if E = 0 then n + 1 else n : Nat) : Int) ∧ But (KFoot g b k) w w'

set_option maxHeartbeats 2000000 in
theorem kGive_any (w : World) (p s : Int) (rs : List (Int × List Int)) (g b lo k : Nat) (A' : Option Addr) (c' : Nat) (la : Int) (ma : Nat) (A : Option Addr) (c : Nat) (xs : List Int) (n : Nat) (hK : KeptAt w p s rs g b lo k A' c' la ma A c xs (n : Int)) (hn : n ≤ 1000000) (hx : xs.length ≤ 1000)
    (z m d pp a : Int) (Q : Option Addr) (es : List (Int × Int)) (ec : Nat) (hE : EvsAt w Q es) (hbe : es.length ≤ 9223372036854775806) (hgA : ∀ a, Q = some a → es ≠ [] → ¬ Foot g b a.block) (hbr : rs.length ≤ 1000000) (hgl : ∀ r ∈ rs, r.2.length ≤ 1000000) :
    Calls Tryd.prog 15 #[.pointer (some ⟨k, 0, none⟩), .agg #[.int .i64 z, .int .i64 m, .int .i64 d, .int .i64 pp, .int .i64 a], .slice Q es.length ec] w (GivePost w p s rs g b lo k A' c' la ma A c (giveX xs z) n (giveE p z m d pp a es rs xs)) := by
  have en := fun k w => err_neq k w
  have gn := fun o k w => err_guard_neq o k w
  have d1 := hK.glo
  have d2 := hK.lok
  have d3 := hK.bk
  have hbA := hK.non.lt
  have hkA := hK.box.lt
  have hQ0 : w.heap.size ≠ g := by omega
  have hQ1 : w.heap.size ≠ b := by omega
  have GK := (hK.below (grow_alloc (grow_refl _) (.cells #[.int .i64 z, .int .i64 m, .int .i64 d, .int .i64 pp, .int .i64 a] 53))).drew
  have GQ := (Box.new w 53 #[.int .i64 z, .int .i64 m, .int .i64 d, .int .i64 pp, .int .i64 a]).drew_
  have GE : EvsAt (w.alloc (.cells #[.int .i64 z, .int .i64 m, .int .i64 d, .int .i64 pp, .int .i64 a] 53)).drew Q es := hE.below (grow_drew (grow_alloc (grow_refl _) _))
  have GT : But (KFoot g b k) w (w.alloc (.cells #[.int .i64 z, .int .i64 m, .int .i64 d, .int .i64 pp, .int .i64 a] 53)).drew := ((But.refl _ w).alloc _).drew
  have HGL : Hid (∀ r ∈ rs, r.2.length ≤ 9223372036854775806) := Lib.hid (fun r hr => by have := hgl r hr; omega)
  have HGA := Lib.hid hgA
  have HNG : ∀ j, Foot g b j → KFoot g b k j := fun j h => by rcases h with h | h; exact Or.inl h; exact Or.inr (Or.inl h)
  have HNG := Lib.hid HNG
  clear hE hgl hgA
  cases hh : hasI xs z
  · have HG : Hid (giveE p z m d pp a es rs xs = 5 ∧ giveX xs z = xs) := Lib.hid (by unfold giveE giveX; rw [hh]; exact ⟨rfl, rfl⟩)
    have HH := Lib.hid hh
    have HX := Lib.hid hx
    clear hh hx hK
    rw [HG.out.1, HG.out.2]
    go_enter Tryd.func15, Tryd.ntmps15
    go_wp2_with fail
    go_region_held3 (fun w' => (∀ i, w'.cell? ⟨k, i, none⟩ = (#[.pointer (some ⟨g, 0, none⟩), .int .i64 p, .int .i64 s, .int .i64 n, .slice A' rs.length c'] : Array Value)[i]?) ∧ (∀ i, w'.cell? ⟨w.heap.size, i, none⟩ = (#[.int .i64 z, .int .i64 m, .int .i64 d, .int .i64 pp, .int .i64 a] : Array Value)[i]?))
      (first
        | exact ⟨GK.box.cell, GQ.cell⟩
        | (go_keep; done))
      (first
        | (go_at_call 50; refine (nUse_no g b la ma A c xs z _ GK.non HH.out HX.out).mono ?_; rintro e w5 ⟨rfl, rfl⟩))
    go_wp2_with fail
    go_ret2
    exact ⟨rfl, GK, GT⟩
  · have HG : Hid (giveE p z m d pp a es rs xs = sureE p z m d pp a z es rs ∧ giveX xs z = xs.erase z) := Lib.hid (by unfold giveE giveX; rw [hh]; exact ⟨rfl, rfl⟩)
    have HH := Lib.hid hh
    have HX := Lib.hid hx
    obtain ⟨E, hEE⟩ : ∃ E, sureE p z m d pp a z es rs = E := ⟨_, rfl⟩
    have HEE := Lib.hid hEE
    rw [HG.out.1, HG.out.2, hEE]
    clear hh hx hK hEE HG
    go_enter Tryd.func15, Tryd.ntmps15
    go_wp2_with fail
    go_region_held3 (fun w' => (∀ i, w'.cell? ⟨k, i, none⟩ = (#[.pointer (some ⟨g, 0, none⟩), .int .i64 p, .int .i64 s, .int .i64 n, .slice A' rs.length c'] : Array Value)[i]?) ∧ (∀ i, w'.cell? ⟨w.heap.size, i, none⟩ = (#[.int .i64 z, .int .i64 m, .int .i64 d, .int .i64 pp, .int .i64 a] : Array Value)[i]?))
      (first
        | exact ⟨GK.box.cell, GQ.cell⟩
        | (go_keep; done))
      (first
        | (go_at_call 50; refine (nUse_yes g b la ma A c xs z _ GK.non HH.out HX.out).mono ?_; rintro e w5 ⟨rfl, hN5, hk5⟩; have GK := GK.foot hk5 hN5 d3; have GQ := GQ.but hk5 (by intro h; rcases h with h | h <;> omega); have GT := GT.trans hk5 (fun j _ h => HNG.out j h); have GE := GE.but' hk5 HGA.out))
    have HK5 := Lib.hid GK
    have HQ5 := Lib.hid GQ
    have HT5 := Lib.hid GT
    have HE5 := Lib.hid GE
    clear GK GQ GT GE
    go_wp2_with fail
    have GK := HK5.out.drew
    have GQ := HQ5.out.drew_
    have GT := HT5.out.drew
    have GE := HE5.out.below (grow_drew (grow_refl _))
    clear HK5 HQ5 HT5 HE5
    go_region_held3 (fun w' => (∀ i, w'.cell? ⟨k, i, none⟩ = (#[.pointer (some ⟨g, 0, none⟩), .int .i64 p, .int .i64 s, .int .i64 n, .slice A' rs.length c'] : Array Value)[i]?) ∧ (∀ i, w'.cell? ⟨w.heap.size, i, none⟩ = (#[.int .i64 z, .int .i64 m, .int .i64 d, .int .i64 pp, .int .i64 a] : Array Value)[i]?))
      (first
        | exact ⟨GK.box.cell, GQ.cell⟩
        | (go_keep; done))
      (first
        | (go_at_call 31; refine (judgeSure_any p z m d pp a z Q es ec A' rs c' _ GE hbe GK.rul.at_ GK.rc (by omega) HGL.out).mono ?_; rintro e w6 ⟨rfl, hb6⟩; rw [HEE.out]; have GK := GK.below hb6; have GQ := GQ.below hb6; have GT := GT.trans (below_but hb6 (KFoot g b k)) (fun j _ h => h)))
    have HK6 := Lib.hid GK
    have HT6 := Lib.hid GT
    have cK := GK.box.cell
    have lK := GK.box.lt
    have fK := GK.box.frozen
    clear GK GQ GT GE
    by_cases h0 : E = 0
    · subst h0
      go_wp2_with fail
      go_ret2
      refine ⟨rfl, ?_, HT6.out.setCell (Or.inl (Or.inr (Or.inr rfl))) _⟩
      have h := HK6.out.given ((n : Int) + 1)
      exact h
    · have t : (E != 0) = true := by simp [h0]
      have HN0 := Lib.hid h0
      clear h0
      go_wp2_with fail
      go_ret2
      refine ⟨by rw [if_neg HN0.out]; rfl, by rw [if_neg HN0.out]; exact HK6.out, HT6.out⟩

theorem kGive_no (w : World) (p s : Int) (rs : List (Int × List Int)) (g b lo k : Nat) (A' : Option Addr) (c' : Nat) (la : Int) (ma : Nat) (A : Option Addr) (c : Nat) (xs : List Int) (n : Nat) (hK : KeptAt w p s rs g b lo k A' c' la ma A c xs (n : Int)) (hn : n ≤ 1000000) (hx : xs.length ≤ 1000)
    (z m d pp a : Int) (Q : Option Addr) (es : List (Int × Int)) (ec : Nat) (hE : EvsAt w Q es) (hbe : es.length ≤ 9223372036854775806) (hgA : ∀ a, Q = some a → es ≠ [] → ¬ Foot g b a.block) (hbr : rs.length ≤ 1000000) (hgl : ∀ r ∈ rs, r.2.length ≤ 1000000) (hh : hasI xs z = false) :
    Calls Tryd.prog 15 #[.pointer (some ⟨k, 0, none⟩), .agg #[.int .i64 z, .int .i64 m, .int .i64 d, .int .i64 pp, .int .i64 a], .slice Q es.length ec] w fun e w' => e = .returned (.tuple #[.int .i64 0, errV 5]) ∧ KeptAt w' p s rs g b lo k A' c' la ma A c xs (n : Int) ∧ But (KFoot g b k) w w' := by
  have h := kGive_any w p s rs g b lo k A' c' la ma A c xs n hK hn hx z m d pp a Q es ec hE hbe hgA hbr hgl
  have e1 : giveE p z m d pp a es rs xs = 5 := by unfold giveE; rw [hh]; rfl
  have e2 : giveX xs z = xs := by unfold giveX; rw [hh]; rfl
  rw [e1, e2] at h
  exact h
theorem kGive_ok (w : World) (p s : Int) (rs : List (Int × List Int)) (g b lo k : Nat) (A' : Option Addr) (c' : Nat) (la : Int) (ma : Nat) (A : Option Addr) (c : Nat) (xs : List Int) (n : Nat) (hK : KeptAt w p s rs g b lo k A' c' la ma A c xs (n : Int)) (hn : n ≤ 1000000) (hx : xs.length ≤ 1000)
    (z m d pp a : Int) (Q : Option Addr) (es : List (Int × Int)) (ec : Nat) (hE : EvsAt w Q es) (hbe : es.length ≤ 9223372036854775806) (hgA : ∀ a, Q = some a → es ≠ [] → ¬ Foot g b a.block) (hbr : rs.length ≤ 1000000) (hgl : ∀ r ∈ rs, r.2.length ≤ 1000000) (hh : hasI xs z = true) (h0 : sureE p z m d pp a z es rs = 0) :
    Calls Tryd.prog 15 #[.pointer (some ⟨k, 0, none⟩), .agg #[.int .i64 z, .int .i64 m, .int .i64 d, .int .i64 pp, .int .i64 a], .slice Q es.length ec] w fun e w' => e = .returned (.tuple #[.int .i64 s, errV 0]) ∧ KeptAt w' p s rs g b lo k A' c' la ma A c (xs.erase z) ((n + 1 : Nat) : Int) ∧ But (KFoot g b k) w w' := by
  have h := kGive_any w p s rs g b lo k A' c' la ma A c xs n hK hn hx z m d pp a Q es ec hE hbe hgA hbr hgl
  have e1 : giveE p z m d pp a es rs xs = 0 := by unfold giveE; rw [hh, if_pos rfl, h0]
  have e2 : giveX xs z = xs.erase z := by unfold giveX; rw [hh]; rfl
  rw [e1, e2] at h
  exact h
theorem kGive_bad (w : World) (p s : Int) (rs : List (Int × List Int)) (g b lo k : Nat) (A' : Option Addr) (c' : Nat) (la : Int) (ma : Nat) (A : Option Addr) (c : Nat) (xs : List Int) (n : Nat) (hK : KeptAt w p s rs g b lo k A' c' la ma A c xs (n : Int)) (hn : n ≤ 1000000) (hx : xs.length ≤ 1000)
    (z m d pp a : Int) (Q : Option Addr) (es : List (Int × Int)) (ec : Nat) (hE : EvsAt w Q es) (hbe : es.length ≤ 9223372036854775806) (hgA : ∀ a, Q = some a → es ≠ [] → ¬ Foot g b a.block) (hbr : rs.length ≤ 1000000) (hgl : ∀ r ∈ rs, r.2.length ≤ 1000000) (hh : hasI xs z = true) (E : Int) (h0 : sureE p z m d pp a z es rs = E) (hE0 : E ≠ 0) :
    Calls Tryd.prog 15 #[.pointer (some ⟨k, 0, none⟩), .agg #[.int .i64 z, .int .i64 m, .int .i64 d, .int .i64 pp, .int .i64 a], .slice Q es.length ec] w fun e w' => e = .returned (.tuple #[.int .i64 0, errV E]) ∧ KeptAt w' p s rs g b lo k A' c' la ma A c (xs.erase z) (n : Int) ∧ But (KFoot g b k) w w' := by
  have h := kGive_any w p s rs g b lo k A' c' la ma A c xs n hK hn hx z m d pp a Q es ec hE hbe hgA hbr hgl
  have e1 : giveE p z m d pp a es rs xs = E := by unfold giveE; rw [hh, if_pos rfl, h0]
  have e2 : giveX xs z = xs.erase z := by unfold giveX; rw [hh]; rfl
  rw [e1, e2] at h
  unfold GivePost at h
  simp only [if_neg hE0] at h
  exact h
theorem evs_lt {w : World} {A : Option Addr} {es : List (Int × Int)} (h : EvsAt w A es) (hx : es ≠ []) : ∀ a, A = some a → a.block < w.heap.size := fun a ha => by
  obtain ⟨b, off, e, hl, _⟩ := h 0 (by rcases es with _ | _; exact absurd rfl hx; simp)
  rw [ha] at e
  injection e with e
  subst e
  exact hl
theorem KeptAt.lts {w : World} {p s : Int} {rs : List (Int × List Int)} {g b lo k : Nat} {A' : Option Addr} {c' : Nat} {la : Int} {ma : Nat} {A : Option Addr} {c : Nat} {xs : List Int} {n : Int} (h : KeptAt w p s rs g b lo k A' c' la ma A c xs n) : g < k ∧ (b = g ∨ k < b) ∧ k < w.heap.size ∧ b < w.heap.size :=
  ⟨by have := h.glo; have := h.lok; omega, h.bk, h.box.lt, h.non.lt⟩

end Go.Proofs.YtdedllfgeekogaaDoor
