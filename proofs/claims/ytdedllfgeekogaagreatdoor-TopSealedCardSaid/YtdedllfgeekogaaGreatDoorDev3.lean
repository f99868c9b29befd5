/- device over any slots, and counts: New, Update, Good, Tell. A device in memory, off or on: what each of its functions leaves. -/
import Derived.Test.YtdedllfgeekogaaGreatDoorRows
import Derived.Test.YtdedllfgeekogaaGreatDoorNum
import Derived.Test.YtdedllfgeekogaaGreatDoorBase
import Derived.Test.YtdedllfgeekogaaGreatDoorKey
import Derived.Test.YtdedllfgeekogaaGreatDoorOpI
import Derived.Test.YtdedllfgeekogaaGreatDoorOpE
import Derived.Test.YtdedllfgeekogaaGreatDoorEvent
import Derived.Test.YtdedllfgeekogaaGreatDoorImg
import Derived.Test.YtdedllfgeekogaaGreatDoorImg2
import Derived.Test.YtdedllfgeekogaaGreatDoorSign2
import Derived.Test.YtdedllfgeekogaaGreatDoorFoot
import Derived.Test.YtdedllfgeekogaaGreatDoorLiftT
import Derived.Test.YtdedllfgeekogaaGreatDoorSlot
import Derived.Test.YtdedllfgeekogaaGreatDoorSInv
import Derived.Test.YtdedllfgeekogaaGreatDoorCount
import Derived.Test.YtdedllfgeekogaaGreatDoorQuietC
import Derived.Test.YtdedllfgeekogaaGreatDoorCert
import Derived.Test.YtdedllfgeekogaaGreatDoorBank
import Derived.Test.YtdedllfgeekogaaGreatDoorQuote
import Derived.Test.YtdedllfgeekogaaGreatDoorCntP
import Derived.Test.YtdedllfgeekogaaGreatDoorCntC
import Derived.Test.YtdedllfgeekogaaGreatDoorApp
import Derived.Test.YtdedllfgeekogaaGreatDoorUpdP
import Derived.Test.YtdedllfgeekogaaGreatDoorUpd
import Derived.Test.YtdedllfgeekogaaGreatDoorDev
import Derived.WalkKit
import Derived.WalkSpells
import Derived.Lib.Hide
import Derived.Deep.DeepCutAuto
import Derived.Deep.RegionHeld3
import Derived.Deep.QuietTactic
import Derived.BigQuiet
import Derived.RegionTactic
import Derived.BigRegion
namespace Go.Proofs.YtdedllfgeekogaaGreatDoor
open Go.RowKit
set_option maxRecDepth 100000
set_option linter.unusedSimpArgs false
set_option linter.unusedVariables false

theorem infoEv_3 : (Tryz.prog.info? 82).map (fun i => (i.zero, i.size, i.bytes)) = some (some (.agg #[.int .i64 0, .int .i64 0]), 2, 16) := by kernel_rfl
theorem hasL_nil4 : hasL [] = fun _ => false := by funext t; rfl
theorem ofL_nil4 : ofL [] = fun _ => 0 := by funext t; rfl
theorem new_c4 (w : World) :
    Calls Tryz.prog 50 #[] w fun e w' => ∃ b : Nat, e = .returned (.pointer (some ⟨b + 1, 0, none⟩)) ∧ w.heap.size ≤ b ∧ b + 1 < w'.heap.size ∧ CE w' b 0 [] ∧ Below w.heap.size w w' := by
  refine (countNewE_any w).mono ?_
  rintro e w' ⟨rfl, h, hb⟩
  refine ⟨_, rfl, Nat.le_refl _, ?_, ?_, hb⟩
  · obtain ⟨D, h1, _⟩ := h
    exact h1.lt
  · unfold CE
    rw [hasL_nil4, ofL_nil4]
    exact h
set_option maxHeartbeats 1000000 in
theorem devNew_on (root x : Int) (n : ByteArray) (v : Int) (c : ByteArray) (p a : Int) (w : World) (h1 : okIn root = true) (h2 : okSecret x = true) (hn : n.size ≤ 140737488351232) (hc : c.size ≤ 140737488351232) (hi : imgE n v c = 0) :
    Calls Tryz.prog 9 #[.int .i64 root, .int .i64 x, .agg #[.string n, .int .i64 v, .string c, .int .i64 p, .int .i64 a]] w fun e w' => ∃ gd b gs : Nat, e = .returned (.tuple #[.pointer (some ⟨gd, 0, none⟩), errV 0]) ∧ Box w' gd 103 #[.int .i64 root, .int .i64 x, .pointer (some ⟨b + 1, 0, none⟩), .pointer (some ⟨gs, 0, none⟩), .int .i64 0, .int .i64 0, .int .i64 0, .int .i64 0, .int .i64 0, .int .i64 0, .int .i64 0, .int .i64 0, .slice none 0 0, .string ⟨#[]⟩, .int .i64 0, .string ⟨#[]⟩, .bool false] ∧ Box w' gs 138 (sd0 n v c p a).cs ∧ CE w' b 0 [] ∧ w.heap.size ≤ gs ∧ gs < b ∧ b + 1 < gd ∧ Below w.heap.size w w' := by
  have en := fun k w => err_neq k w
  have gn := fun o k w => err_guard_neq o k w
  have HS := Lib.hid (fun w => slotNew_yes n v c p a w (by omega) (by omega) hi)
  clear hi
  go_enter Tryz.func9, Tryz.ntmps9
  go_wp2_with (first | (go_at_call 48; refine (in_any _ _).mono ?_; rintro e w' ⟨rfl, rfl⟩; rw [h1]) | (go_at_call 43; refine (secret_any _ _).mono ?_; rintro e w' ⟨rfl, rfl⟩; rw [h2]))
  refine (HS.out _).mono ?_
  rintro e w1 ⟨gs, rfl, hB1, hg1, hb1⟩
  have HB1 : Hid (Box w1 gs 138 (sd0 n v c p a).cs) := Lib.hid hB1
  have hbw1 : Below w.heap.size w w1 := grow_step (grow_alloc (grow_refl _) _) hb1
  have hgw : w.heap.size ≤ gs := by simp at hg1; omega
  clear hB1 hb1 hg1
  go_wp2_with fail
  refine (new_c4 _).mono ?_
  rintro e w2 ⟨b, rfl, hbs, hbl, hC2, hb2⟩
  have HB2 := Lib.hid (HB1.out.below hb2)
  have HC2 := Lib.hid hC2
  have hlt : gs < b := Nat.lt_of_lt_of_le HB1.out.lt hbs
  have hbw2 : Below w.heap.size w w2 := grow_step hbw1 hb2
  clear hb2 hC2 hbs
  go_wp2_with fail
  go_ret2
  exact ⟨w2.heap.size, b, gs, rfl, Box.new _ _ _, HB2.out.alloc_ _, HC2.out.below (grow_alloc (grow_refl _) _), hgw, hlt, hbl, (by repeat (first | (with_reducible exact grow_refl _) | (with_reducible assumption) | (with_reducible refine grow_alloc ?_ _) | (with_reducible refine grow_set ?_ (by first | exact Nat.le_refl _ | (simp; done) | (simp; omega) | omega) _) | (with_reducible refine grow_drewN ?_ _) | (with_reducible refine grow_drew ?_) | (with_reducible refine grow_step ?_ (by assumption)) | (with_reducible refine grow_base ?_ (by assumption))))⟩

set_option maxHeartbeats 1000000 in
theorem cloneEv_any (ev m : Nat) (x y : Int) (w : World) (hE : EvsAt w (some ⟨ev, 0, none⟩) [(x, y)]) :
    Calls Tryz.prog 56 #[.slice (some ⟨ev, 0, none⟩) 1 m] w fun e w' => ∃ (A' : Option Addr) (c' : Nat), e = .returned (.slice A' 1 c') ∧ EvsAt w' A' [(x, y)] ∧ (∀ a, A' = some a → w.heap.size ≤ a.block) ∧ Below w.heap.size w w' := by
  have HC : Hid (CellsAt w (some ⟨ev, 0, none⟩) (evCells [(x, y)])) := Lib.hid (by
    obtain ⟨b, o, e, hlt, h1, h2⟩ := hE 0 (by simp)
    injection e with e
    injection e with e1 e2 _
    subst e1; subst e2
    intro j u hu
    have hj : j < 2 := (List.getElem?_eq_some_iff.1 hu).1
    refine ⟨ev, 0, rfl, hlt, ?_⟩
    match j, hj, hu with
    | 0, _, hu => injection hu with hu; subst hu; exact h1
    | 1, _, hu => injection hu with hu; subst hu; exact h2)
  have es : ∀ (w : World), (binOp .eql 40 (.slice (some ⟨ev, 0, none⟩) 1 m) (.slice none 0 0)).run Tryz.prog w = .ok (.bool false) w := fun w => Lib.run_eql_slice_nil w _ _ (some ⟨ev, 0, none⟩) 1 m 0 0 Tryz.underlying40
  clear hE
  go_enter Tryz.func56, Tryz.ntmps56
  go_wp2_with (at_builtin; refine app_cells rfl _ _ 40 82 rfl Tryz.underlying40 infoEv_3 (by decide) (by decide) w.heap.size _ _ 0 [] rfl (World.ownsRow_made w #[] 0 (Nat.le_refl _) (Nat.zero_le _) (by simp)) (some ⟨ev, 0, none⟩) m 1 (evCells [(x, y)]) rfl (HC.out.below (grow_alloc (grow_refl _) _)) (by simp [evCells]) (evCells_one _) (by omega) (by omega) (by simp) ?_; intro A2 c2 k2 w4 hk2 ho2 hb4)
  obtain rfl : k2 = 0 + 1 := hk2.out
  go_ret
  exact ⟨A2, c2, rfl, EvsAt.of_cells ho2.cells, fun a ha => (ho2.at_ a ha).1, (by repeat (first | (with_reducible exact grow_refl _) | (with_reducible assumption) | (with_reducible refine grow_alloc ?_ _) | (with_reducible refine grow_set ?_ (by first | exact Nat.le_refl _ | (simp; done) | (simp; omega) | omega) _) | (with_reducible refine grow_drewN ?_ _) | (with_reducible refine grow_drew ?_) | (with_reducible refine grow_step ?_ (by assumption)) | (with_reducible refine grow_base ?_ (by assumption))))⟩

section
variable (root x : Int) (gd gs b : Nat) (q4 q5 q6 q7 q8 q9 q10 q11 q12 q13 q14 q15 q16 : Value) (s : Slts) (w : World) (hD : Box w gd 103 #[.int .i64 root, .int .i64 x, .pointer (some ⟨b + 1, 0, none⟩), .pointer (some ⟨gs, 0, none⟩), q4, q5, q6, q7, q8, q9, q10, q11, q12, q13, q14, q15, q16]) (hB : Box w gs 138 s.cs) (hs : Inv s) (hg : gs < gd)
include hD hB hs hg
set_option maxHeartbeats 2000000 in
theorem devUpdate_any (A : Option Addr) (c : Nat) (cs : List (Int × Int × Int)) (ls : List Cnt) (zn : ByteArray) (zv : Int) (zc : ByteArray) (zp za : Int) (n : Nat) (hA : CertsAt w A cs) (hl : cs.length ≤ 100000000000000) (hC : CE w b n ls) (h3 : zn.size ≤ 140737488351232) (h4 : zc.size ≤ 140737488351232) (ht : TabT w) :
    Calls Tryz.prog 14 #[.pointer (some ⟨gd, 0, none⟩), .slice A cs.length c, .agg #[.string zn, .int .i64 zv, .string zc, .int .i64 zp, .int .i64 za]] w fun e w' => e = .returned (errV (doE root cs ls s (zn, zv, zc, zp, za))) ∧ Box w' gs 138 (doS root cs ls s (zn, zv, zc, zp, za)).cs ∧ But (fun k => k = gs) w w' := by
  have HM := Lib.hid (fun w hA hC hB ht => updDo_any root A c cs ls zn zv zc zp za gs s b n w hA hl hC hB hs h3 h4 ht)
  obtain ⟨E, hE⟩ : ∃ E, doE root cs ls s (zn, zv, zc, zp, za) = E := ⟨_, rfl⟩
  obtain ⟨s', hs'⟩ : ∃ s', doS root cs ls s (zn, zv, zc, zp, za) = s' := ⟨_, rfl⟩
  rw [hE, hs'] at HM ⊢
  have HA := Lib.hid hA
  have HC := Lib.hid hC
  have HT := Lib.hid ht
  have HD := Lib.hid (hD.alloc_ (.cells #[.string zn, .int .i64 zv, .string zc, .int .i64 zp, .int .i64 za] 32))
  have HB := Lib.hid (hB.alloc_ (.cells #[.string zn, .int .i64 zv, .string zc, .int .i64 zp, .int .i64 za] 32))
  have HZ := Lib.hid (Box.new w 32 #[.string zn, .int .i64 zv, .string zc, .int .i64 zp, .int .i64 za])
  have hne : gd ≠ gs := by omega
  have hnz : w.heap.size ≠ gs := by have := hB.lt; omega
  clear hA hC ht hD hB hs hE hs'
  go_enter Tryz.func14, Tryz.ntmps14
  go_wp2_with fail
  have GD := HD.out.drew_
  have GZ := HZ.out.drew_
  have GB := HB.out.drew_
  have GW : Below w.heap.size w (w.alloc (.cells #[.string zn, .int .i64 zv, .string zc, .int .i64 zp, .int .i64 za] 32)).drew := grow_drew (grow_alloc (grow_refl _) _)
  clear HD HZ HB
  go_region_held3 (fun w' => (∀ i, w'.cell? ⟨gd, i, none⟩ = (#[.int .i64 root, .int .i64 x, .pointer (some ⟨b + 1, 0, none⟩), .pointer (some ⟨gs, 0, none⟩), q4, q5, q6, q7, q8, q9, q10, q11, q12, q13, q14, q15, q16] : Array Value)[i]?) ∧ (∀ i, w'.cell? ⟨w.heap.size, i, none⟩ = (#[.string zn, .int .i64 zv, .string zc, .int .i64 zp, .int .i64 za] : Array Value)[i]?))
    (first
      | exact ⟨GD.cell, GZ.cell⟩
      | (go_keep; done))
    (first
      | (go_at_call 61; refine (HM.out _ (HA.out.below GW) (HC.out.below GW) GB (HT.out.below GW)).mono ?_; rintro e w5 ⟨rfl, hB5, hk5⟩; have GB := hB5; have GD := GD.but hk5 hne; have GZ := GZ.but hk5 hnz; have GT := (below_but GW (fun k => k = gs)).trans hk5 (fun _ _ h => h)))
  go_wp2_with fail
  go_ret
  exact ⟨rfl, GB, GT⟩
end

def dgE (s : Slts) (ls : List Cnt) (n : ByteArray) (v : Int) : Int := if (s.at_ s.r).g then 7 else raiseE ls n v
def dgL (s : Slts) (ls : List Cnt) (n : ByteArray) (v : Int) : List Cnt := if (s.at_ s.r).g then ls else raiseL ls n v
set_option maxHeartbeats 2000000 in
theorem devGood_on (root x : Int) (gd gs b nb : Nat) (q4 q5 q6 q7 q8 q9 q10 q11 q12 : Value) (n : ByteArray) (v : Int) (c : ByteArray) (s : Slts) (ls : List Cnt) (w : World) (hD : Box w gd 103 #[.int .i64 root, .int .i64 x, .pointer (some ⟨b + 1, 0, none⟩), .pointer (some ⟨gs, 0, none⟩), q4, q5, q6, q7, q8, q9, q10, q11, q12, .string n, .int .i64 v, .string c, .bool true]) (hB : Box w gs 138 s.cs) (hC : CE w b nb ls)
    (hgb : gs < b) (hbd : b + 1 < gd) (hnb : nb ≤ 1000000) (hl : ls.length ≤ 12) (hz : n.size ≤ 140737488351232) :
    Calls Tryz.prog 27 #[.pointer (some ⟨gd, 0, none⟩)] w fun e w' => e = .returned (errV (dgE s ls n v)) ∧ Box w' gs 138 (goodS s).cs ∧ (∃ n', n' ≤ nb + 1 ∧ CE w' b n' (dgL s ls n v)) ∧ But (fun k => k = gs ∨ k = b) w w' := by
  have en := fun k w => err_neq k w
  have gn := fun o k w => err_guard_neq o k w
  have HGD := Lib.hid (fun w h => goodC gs s w h)
  have HM := Lib.hid (fun w h => cRaise_any b nb ls n v w h hz hnb hl)
  obtain ⟨s', hs'⟩ : ∃ s', goodS s = s' := ⟨_, rfl⟩
  rw [hs'] at HGD ⊢
  have hne : gd ≠ gs := by omega
  have HD := Lib.hid hD
  have HB := Lib.hid hB
  have HC := Lib.hid hC
  have cD := hD.cell
  have lD := hD.lt
  clear hD hB hC hs'
  unfold goodE at HGD
  unfold dgE dgL
  cases hg : (s.at_ s.r).g
  · rw [hg] at HGD
    simp only [Bool.false_eq_true, if_false] at HGD ⊢
    obtain ⟨E, hE⟩ : ∃ E, raiseE ls n v = E := ⟨_, rfl⟩
    obtain ⟨l', hl'⟩ : ∃ l', raiseL ls n v = l' := ⟨_, rfl⟩
    rw [hE, hl'] at HM ⊢
    clear hE hl' hg
    go_enter Tryz.func27, Tryz.ntmps27
    go_wp2_with fail
    refine (HGD.out _ HB.out).mono ?_
    rintro e w1 ⟨rfl, hB1, hk1⟩
    have HD1 := Lib.hid (HD.out.but hk1 hne)
    have HB1 := Lib.hid hB1
    have HC1 := Lib.hid (HC.out.but hk1 (by intro e; have : b = gs := e; omega) (by intro e; have : b + 1 = gs := e; omega))
    have HK1 := Lib.hid hk1
    clear hB1 hk1 cD lD HD HB HC
    go_wp2_with fail
    have GD := HD1.out.drew_
    have GB := HB1.out.drew_
    have GC := HC1.out.below (grow_drew (grow_refl _))
    have GT : But (fun k => k = gs ∨ k = b) w w1.drew := (HK1.out.mono (fun k _ h => Or.inl h)).drew
    go_region_held3 (fun w' => (∀ i, w'.cell? ⟨gd, i, none⟩ = (#[.int .i64 root, .int .i64 x, .pointer (some ⟨b + 1, 0, none⟩), .pointer (some ⟨gs, 0, none⟩), q4, q5, q6, q7, q8, q9, q10, q11, q12, .string n, .int .i64 v, .string c, .bool true] : Array Value)[i]?))
      (first
        | (with_reducible exact GD.cell)
        | (go_keep; done))
      (first
        | (go_at_call 73; refine (HM.out _ GC).mono ?_; rintro e w5 ⟨rfl, ⟨n', hn', hC5⟩, hk5⟩; have GB := GB.but hk5 (by intro h; have : gs = b := h; omega); have GT := GT.trans hk5 (fun k _ h => Or.inr h); have GC := hC5; have GD := GD.but hk5 (by intro h; have : gd = b := h; omega)))
    go_wp2_with fail
    go_ret
    exact ⟨rfl, GB, ⟨n', hn', GC⟩, GT⟩
  · rw [hg] at HGD
    simp only [if_true] at HGD ⊢
    clear hg HM
    go_enter Tryz.func27, Tryz.ntmps27
    go_wp2_with fail
    refine (HGD.out _ HB.out).mono ?_
    rintro e w1 ⟨rfl, hB1, hk1⟩
    have HB1 := Lib.hid hB1
    have HC1 := Lib.hid (HC.out.but hk1 (by intro e; have : b = gs := e; omega) (by intro e; have : b + 1 = gs := e; omega))
    have HK1 := Lib.hid hk1
    clear hB1 hk1 cD lD HD HB HC
    go_wp2_with fail
    go_ret
    exact ⟨rfl, HB1.out, ⟨nb, by omega, HC1.out⟩, HK1.out.mono (fun k _ h => Or.inl h)⟩

theorem But.five (w : World) (b : Nat) (u0 u1 u2 u3 u4 : Value) : But (fun j => j = b) w (((((w.setCell ⟨b, 0, none⟩ u0).setCell ⟨b, 1, none⟩ u1).setCell ⟨b, 2, none⟩ u2).setCell ⟨b, 3, none⟩ u3).setCell ⟨b, 4, none⟩ u4) :=
  (((((But.refl (fun j => j = b) w).setCell (p := ⟨b, 0, none⟩) (Or.inl rfl) u0).setCell (p := ⟨b, 1, none⟩) (Or.inl rfl) u1).setCell (p := ⟨b, 2, none⟩) (Or.inl rfl) u2).setCell (p := ⟨b, 3, none⟩) (Or.inl rfl) u3).setCell (p := ⟨b, 4, none⟩) (Or.inl rfl) u4
theorem EvsAt.but' {S : Nat → Prop} {w w' : World} {A : Option Addr} {es : List (Int × Int)} (h : EvsAt w A es) (k : But S w w') (hn : ∀ a, A = some a → es ≠ [] → ¬ S a.block) : EvsAt w' A es := fun i hi => by
  obtain ⟨b, off, e, hlt, h1, h2⟩ := h i hi
  have hx : es ≠ [] := fun h => by subst h; simp at hi
  have eb := k.block b hlt (hn _ e hx)
  exact ⟨b, off, e, Nat.lt_of_lt_of_le hlt k.size, (World.cell?_of_block (w := w) (a := ⟨b, off + i * 2, none⟩) eb).trans h1, (World.cell?_of_block (w := w) (a := ⟨b, off + i * 2 + 1, none⟩) eb).trans h2⟩
theorem EvsAt.but_ {S : Nat → Prop} {w w' : World} {b : Nat} {es : List (Int × Int)} (h : EvsAt w (some ⟨b, 0, none⟩) es) (k : But S w w') (hn : ¬ S b) : EvsAt w' (some ⟨b, 0, none⟩) es := fun i hi => by
  obtain ⟨b', off, e, hlt, h1, h2⟩ := h i hi
  injection e with e
  injection e with q1 q2
  subst q1; subst q2
  have eb := k.block b hlt hn
  exact ⟨b, 0, rfl, Nat.lt_of_lt_of_le hlt k.size, (World.cell?_of_block (w := w) (a := ⟨b, 0 + i * 2, none⟩) eb).trans h1, (World.cell?_of_block (w := w) (a := ⟨b, 0 + i * 2 + 1, none⟩) eb).trans h2⟩

def tellEs (E M : Int) : List (Int × Int) := if E = 0 then [(0, M)] else []
set_option maxHeartbeats 4000000 in
theorem devTell_on (root x : Int) (gd gs b ev : Nat) (y0 y1 y2 y3 y4 y5 y6 y7 M : Int) (n : ByteArray) (v : Int) (c : ByteArray) (k m d : Int) (w : World) (hD : Box w gd 103 #[.int .i64 root, .int .i64 x, .pointer (some ⟨b + 1, 0, none⟩), .pointer (some ⟨gs, 0, none⟩), .int .i64 y0, .int .i64 y1, .int .i64 y2, .int .i64 y3, .int .i64 y4, .int .i64 y5, .int .i64 y6, .int .i64 y7, .slice (some ⟨ev, 0, none⟩) 1 1, .string n, .int .i64 v, .string c, .bool true]) (hE : EvsAt w (some ⟨ev, 0, none⟩) [(0, M)]) (V : Int × Int × Int × Int × Int) (hV : V = mkV x k m d [y0, y1, y2, y3, y4, y5, y6, y7]) (E : Int) (hM : mkE x k m d [y0, y1, y2, y3, y4, y5, y6, y7] = E) :
    Calls Tryz.prog 11 #[.pointer (some ⟨gd, 0, none⟩), .int .i64 k, .int .i64 m, .int .i64 d] w fun e w' => ∃ (A' : Option Addr) (c' : Nat), e = .returned (.tuple #[.agg #[.int .i64 V.1, .int .i64 V.2.1, .int .i64 V.2.2.1, .int .i64 V.2.2.2.1, .int .i64 V.2.2.2.2], .slice A' (tellEs E M).length c', errV E]) ∧ EvsAt w' A' (tellEs E M) ∧ Below w.heap.size w w' := by
  have en := fun k w => err_neq k w
  have gn := fun o k w => err_guard_neq o k w
  obtain ⟨v0, v1, v2, v3, v4⟩ := V
  have HQ : Hid (∀ w, Calls Tryz.prog 55 #[.int .i64 x, .int .i64 k, .int .i64 m, .int .i64 d, .agg #[.int .i64 y0, .int .i64 y1, .int .i64 y2, .int .i64 y3, .int .i64 y4, .int .i64 y5, .int .i64 y6, .int .i64 y7]] w fun e w' => e = .returned (.tuple #[.agg #[.int .i64 v0, .int .i64 v1, .int .i64 v2, .int .i64 v3, .int .i64 v4], errV E]) ∧ Below w.heap.size w w') := Lib.hid (fun w => (quoteMake_any x k m d y0 y1 y2 y3 y4 y5 y6 y7 w).mono fun e w' h => ⟨by rw [← hM]; exact h.1 _ hV, h.2⟩)
  have HZ : Hid (E ≠ 0 → v0 = 0 ∧ v1 = 0 ∧ v2 = 0 ∧ v3 = 0 ∧ v4 = 0) := Lib.hid (fun h => by
    unfold mkV at hV
    rw [hM, if_neg h] at hV
    injection hV with e0 hV
    injection hV with e1 hV
    injection hV with e2 hV
    injection hV with e3 e4
    exact ⟨e0, e1, e2, e3, e4⟩)
  have HD := Lib.hid (hD.alloc_ (.cells #[.int .i64 0, .int .i64 0, .int .i64 0, .int .i64 0, .int .i64 0] 39))
  have HE := Lib.hid (hE.below (grow_alloc (grow_refl w) (.cells #[.int .i64 0, .int .i64 0, .int .i64 0, .int .i64 0, .int .i64 0] 39)))
  have HR := Lib.hid (Box.new w 39 #[.int .i64 0, .int .i64 0, .int .i64 0, .int .i64 0, .int .i64 0])
  have HW : Hid (Below w.heap.size w (w.alloc (.cells #[.int .i64 0, .int .i64 0, .int .i64 0, .int .i64 0, .int .i64 0] 39))) := Lib.hid (grow_alloc (grow_refl _) _)
  have hgw := hD.lt
  have hev : ev < w.heap.size := by
    obtain ⟨b', o, e, hl, _⟩ := hE 0 (by simp)
    injection e with e
    injection e with e _
    omega
  have cD := hD.cell
  have lD := hD.lt
  have hne : gd ≠ w.heap.size := by omega
  clear hD hE hV hM
  go_enter Tryz.func11, Tryz.ntmps11
  go_upto_region 3 with fail
  clear cD
  go_cut [11, 12, 20] (fun p e _ wx => ∃ gx : Nat, p = .pointer (some ⟨gx, 0, none⟩) ∧ e = errV E ∧ gx ≠ w.heap.size ∧ gx ≠ gd ∧ Hid (Box wx gx 39 #[.int .i64 v0, .int .i64 v1, .int .i64 v2, .int .i64 v3, .int .i64 v4]) ∧ Hid (Box wx w.heap.size 39 #[.int .i64 0, .int .i64 0, .int .i64 0, .int .i64 0, .int .i64 0]) ∧ Hid (Box wx gd 103 #[.int .i64 root, .int .i64 x, .pointer (some ⟨b + 1, 0, none⟩), .pointer (some ⟨gs, 0, none⟩), .int .i64 y0, .int .i64 y1, .int .i64 y2, .int .i64 y3, .int .i64 y4, .int .i64 y5, .int .i64 y6, .int .i64 y7, .slice (some ⟨ev, 0, none⟩) 1 1, .string n, .int .i64 v, .string c, .bool true]) ∧ Hid (EvsAt wx (some ⟨ev, 0, none⟩) [(0, M)]) ∧ Hid (Below w.heap.size w wx))
  case first =>
    have KD := HD.out
    have KE := HE.out
    have KR := HR.out
    have KW := HW.out
    have GD := KD.drew_
    have GR := KR.drew_
    have GE := KE.below (grow_drew (grow_refl _))
    have GW := grow_drew KW
    have G2 := (KD.alloc_ (.cells #[.int .i64 0, .int .i64 0, .int .i64 0, .int .i64 0, .int .i64 0] 39)).drew_
    have R2 := (KR.alloc_ (.cells #[.int .i64 0, .int .i64 0, .int .i64 0, .int .i64 0, .int .i64 0] 39)).drew_
    have E2 := (KE.below (grow_alloc (grow_refl _) (.cells #[.int .i64 0, .int .i64 0, .int .i64 0, .int .i64 0, .int .i64 0] 39))).below (grow_drew (grow_refl _))
    have W2 := grow_drew (grow_alloc KW (.cells #[.int .i64 0, .int .i64 0, .int .i64 0, .int .i64 0, .int .i64 0] 39))
    have X2 : Box ((w.alloc (.cells #[.int .i64 0, .int .i64 0, .int .i64 0, .int .i64 0, .int .i64 0] 39)).alloc (.cells #[.int .i64 0, .int .i64 0, .int .i64 0, .int .i64 0, .int .i64 0] 39)).drew (w.heap.size + 1) 39 #[.int .i64 0, .int .i64 0, .int .i64 0, .int .i64 0, .int .i64 0] := by
      have h := (Box.new (w.alloc (.cells #[.int .i64 0, .int .i64 0, .int .i64 0, .int .i64 0, .int .i64 0] 39)) 39 #[.int .i64 0, .int .i64 0, .int .i64 0, .int .i64 0, .int .i64 0]).drew_
      simpa using h
    have hn1 : gd ≠ w.heap.size + 1 := by omega
    have hn2 : w.heap.size + 1 ≠ gd := by omega
    have hn3 : w.heap.size + 1 ≠ w.heap.size := by omega
    have hn4 : w.heap.size ≠ w.heap.size + 1 := by omega
    clear KD KE KR KW HD HE HR HW lD
    go_region_held3 (fun w' => (∀ i, w'.cell? ⟨gd, i, none⟩ = (#[.int .i64 root, .int .i64 x, .pointer (some ⟨b + 1, 0, none⟩), .pointer (some ⟨gs, 0, none⟩), .int .i64 y0, .int .i64 y1, .int .i64 y2, .int .i64 y3, .int .i64 y4, .int .i64 y5, .int .i64 y6, .int .i64 y7, .slice (some ⟨ev, 0, none⟩) 1 1, .string n, .int .i64 v, .string c, .bool true] : Array Value)[i]?))
      (first
        | (with_reducible exact GD.cell)
        | (with_reducible exact G2.cell)
        | (with_reducible exact (GD.alloc_ _).cell)
        | (go_keep; done)
        | (intro i; have h := G2.cell i; simp [hn1, hn2, h]; done))
      (first
        | (go_at_call 55; refine (HQ.out _).mono ?_; rintro e w5 ⟨rfl, hb5⟩; have G2 := G2.below hb5; have R2 := R2.below hb5; have X2 := X2.below hb5; have E2 := E2.below hb5; have W2 := grow_step W2 hb5; have cX := X2.cell; have lX := X2.lt; have fX := X2.frozen)
        | (go_at_call 55; refine (HQ.out _).mono ?_; rintro e w5 ⟨rfl, hb5⟩; have GD := GD.below hb5; have GR := GR.below hb5; have GE := GE.below hb5; have GW := grow_step GW hb5))
    · go_wp2_with fail
      go_meet
      exact ⟨w5.heap.size, rfl, rfl, by have := GR.lt; omega, by have := GD.lt; omega, Lib.hid (Box.new w5 39 #[.int .i64 v0, .int .i64 v1, .int .i64 v2, .int .i64 v3, .int .i64 v4]), Lib.hid (GR.alloc_ _), Lib.hid (GD.alloc_ _), Lib.hid (GE.below (grow_alloc (grow_refl _) _)), Lib.hid (grow_alloc GW _)⟩
    · go_wp2_with fail
      go_meet
      have k5 := But.five w5 (w.heap.size + 1) (.int .i64 v0) (.int .i64 v1) (.int .i64 v2) (.int .i64 v3) (.int .i64 v4)
      exact ⟨w.heap.size + 1, rfl, rfl, hn3, hn2, Lib.hid (X2.fill5 _ _ _ _ _), Lib.hid (R2.but k5 hn4), Lib.hid (G2.but k5 hn1), Lib.hid (E2.but_ k5 (by have := hev; intro h; omega)), Lib.hid (W2.trans (k5.below W2.size (by intro j h; omega)))⟩
  case rest =>
  obtain ⟨gx, rfl, rfl, hx1, hx2, HX, HR, HD, HE, HW⟩ := hcut
  have hgr := HR.out.lt
  by_cases h0 : E = 0
  · subst h0
    have cD := HD.out.cell
    have lD := HD.out.lt
    have cX := HX.out.cell
    have lX := HX.out.lt
    have hgxw := HX.out.lt
    go_wp2_with fail
    have GD := HD.out.drew_
    have GX := HX.out.drew_
    have GR := HR.out.drew_
    have GE := HE.out.below (grow_drew (grow_refl _))
    have GW := grow_drew HW.out
    clear cD cX HD HX HR HE HW
    go_region_held3 (fun w' => (∀ i, w'.cell? ⟨gd, i, none⟩ = (#[.int .i64 root, .int .i64 x, .pointer (some ⟨b + 1, 0, none⟩), .pointer (some ⟨gs, 0, none⟩), .int .i64 y0, .int .i64 y1, .int .i64 y2, .int .i64 y3, .int .i64 y4, .int .i64 y5, .int .i64 y6, .int .i64 y7, .slice (some ⟨ev, 0, none⟩) 1 1, .string n, .int .i64 v, .string c, .bool true] : Array Value)[i]?) ∧ (∀ i, w'.cell? ⟨gx, i, none⟩ = (#[.int .i64 v0, .int .i64 v1, .int .i64 v2, .int .i64 v3, .int .i64 v4] : Array Value)[i]?))
      (first
        | (with_reducible exact ⟨GD.cell, GX.cell⟩)
        | (go_keep; done)
        | exact ⟨(GD.but (But.five _ _ _ _ _ _ _) hne).cell, (GX.but (But.five _ _ _ _ _ _ _) hx1).cell⟩)
      (first
        | (go_at_call 56; refine (cloneEv_any ev 1 0 M _ GE).mono ?_; rintro e w5 ⟨A', c', rfl, hE5, hfr, hb5⟩; have hrl := GR.lt; have GD := GD.below hb5; have GX := GX.below hb5; have GR := GR.below hb5; have GW := grow_step GW hb5; have cR := GR.cell; have lR := GR.lt; have fR := GR.frozen))
    go_wp2_with fail
    have HL : Hid (tellEs 0 M = [(0, M)]) := Lib.hid rfl
    have k5 := But.five w5 w.heap.size (.int .i64 v0) (.int .i64 v1) (.int .i64 v2) (.int .i64 v3) (.int .i64 v4)
    rw [HL.out]
    refine bodyPost_ret (v := .tuple #[.agg #[.int .i64 v0, .int .i64 v1, .int .i64 v2, .int .i64 v3, .int .i64 v4], .slice A' 1 c', errV 0]) (res3b Tryz.results11 rfl (GR.fill5 _ _ _ _ _) Tryz.underlying39 rfl (by kernel_rfl)) rfl ⟨A', c', rfl, ?_, ?_⟩
    · exact hE5.but' k5 (fun a ha _ h => by have := hfr a ha; omega)
    · exact GW.trans (k5.below GW.size (by intro j h; omega))
  · have t : (E != 0) = true := by simp [h0]
    obtain ⟨rfl, rfl, rfl, rfl, rfl⟩ := HZ.out h0
    have HL : Hid (tellEs E M = []) := Lib.hid (by unfold tellEs; rw [if_neg h0])
    clear h0 HZ
    have cR := HR.out.cell
    have lR := HR.out.lt
    have fR := HR.out.frozen
    go_wp2_with fail
    have k5 := But.five wc w.heap.size (.int .i64 0) (.int .i64 0) (.int .i64 0) (.int .i64 0) (.int .i64 0)
    rw [HL.out]
    exact bodyPost_ret (v := .tuple #[.agg #[.int .i64 0, .int .i64 0, .int .i64 0, .int .i64 0, .int .i64 0], .slice none 0 0, errV E]) (res3b Tryz.results11 rfl (HR.out.fill5 _ _ _ _ _) Tryz.underlying39 rfl (by kernel_rfl)) rfl ⟨none, 0, rfl, EvsAt.nil_ _ _, HW.out.trans (k5.below HW.out.size (by intro j h; omega))⟩

end Go.Proofs.YtdedllfgeekogaaGreatDoor

namespace Go.Proofs.YtdedllfgeekogaaGreatDoor
open Go.RowKit
set_option maxRecDepth 100000
set_option linter.unusedVariables false

abbrev Im := ByteArray × Int × ByteArray
def DOFF (root x : Int) (b gs : Nat) : Array Value := #[.int .i64 root, .int .i64 x, .pointer (some ⟨b + 1, 0, none⟩), .pointer (some ⟨gs, 0, none⟩), .int .i64 0, .int .i64 0, .int .i64 0, .int .i64 0, .int .i64 0, .int .i64 0, .int .i64 0, .int .i64 0, .slice none 0 0, .string ⟨#[]⟩, .int .i64 0, .string ⟨#[]⟩, .bool false]
def DON (root x : Int) (b gs ev : Nat) (y0 y1 y2 y3 y4 y5 y6 y7 : Int) (m : Im) : Array Value := #[.int .i64 root, .int .i64 x, .pointer (some ⟨b + 1, 0, none⟩), .pointer (some ⟨gs, 0, none⟩), .int .i64 y0, .int .i64 y1, .int .i64 y2, .int .i64 y3, .int .i64 y4, .int .i64 y5, .int .i64 y6, .int .i64 y7, .slice (some ⟨ev, 0, none⟩) 1 1, .string m.1, .int .i64 m.2.1, .string m.2.2, .bool true]
/-- The device's own cells: off, or what it started; its events lie apart from X. -/
def DevBox (w : World) (gd gs b : Nat) (root x : Int) (X : Nat → Prop) : Option Im → Prop
  | none => Box w gd 103 (DOFF root x b gs)
  | some m => ∃ (ev : Nat) (y0 y1 y2 y3 y4 y5 y6 y7 : Int), [y0, y1, y2, y3, y4, y5, y6, y7] = evBank [(0, imgM m.1 m.2.1 m.2.2)] ∧ EvsAt w (some ⟨ev, 0, none⟩) [(0, imgM m.1 m.2.1 m.2.2)] ∧ gd < ev ∧ ev < w.heap.size ∧ ¬ X ev ∧ Box w gd 103 (DON root x b gs ev y0 y1 y2 y3 y4 y5 y6 y7 m)
structure DevAt (w : World) (gd gs b : Nat) (root x : Int) (nb : Nat) (s : Slts) (ls : List Cnt) (o : Option Im) (X : Nat → Prop) : Prop where
  dev : DevBox w gd gs b root x X o
  slots : Box w gs 138 s.cs
  cnt : CE w b nb ls
  lt1 : gs < b
  lt2 : b + 1 < gd
  lt3 : gd < w.heap.size

theorem DevBox.but {S : Nat → Prop} {w w' : World} {gd gs b : Nat} {root x : Int} {X : Nat → Prop} {o : Option Im} (h : DevBox w gd gs b root x X o) (k : But S w w') (h1 : ¬ S gd) (h2 : ∀ ev, gd < ev → ev < w.heap.size → ¬ X ev → ¬ S ev) : DevBox w' gd gs b root x X o := by
  rcases o with _ | m
  · exact Box.but h k h1
  · obtain ⟨ev, y0, y1, y2, y3, y4, y5, y6, y7, a1, a2, a3, a4, a5, a6⟩ := h
    exact ⟨ev, y0, y1, y2, y3, y4, y5, y6, y7, a1, a2.but_ k (h2 ev a3 a4 a5), a3, Nat.lt_of_lt_of_le a4 k.size, a5, a6.but k h1⟩
theorem DevBox.any {w : World} {gd gs b : Nat} {root x : Int} {X : Nat → Prop} {o : Option Im} (h : DevBox w gd gs b root x X o) : ∃ q4 q5 q6 q7 q8 q9 q10 q11 q12 q13 q14 q15 q16, Box w gd 103 #[.int .i64 root, .int .i64 x, .pointer (some ⟨b + 1, 0, none⟩), .pointer (some ⟨gs, 0, none⟩), q4, q5, q6, q7, q8, q9, q10, q11, q12, q13, q14, q15, q16] := by
  rcases o with _ | m
  · exact ⟨_, _, _, _, _, _, _, _, _, _, _, _, _, h⟩
  · obtain ⟨ev, y0, y1, y2, y3, y4, y5, y6, y7, a1, a2, a3, a4, a5, a6⟩ := h
    exact ⟨_, _, _, _, _, _, _, _, _, _, _, _, _, a6⟩
theorem DevAt.but {S : Nat → Prop} {w w' : World} {gd gs b : Nat} {root x : Int} {nb : Nat} {s : Slts} {ls : List Cnt} {o : Option Im} {X : Nat → Prop} (h : DevAt w gd gs b root x nb s ls o X) (k : But S w w') (h1 : ∀ j, gs ≤ j → j ≤ gd → ¬ S j) (h2 : ∀ ev, gd < ev → ev < w.heap.size → ¬ X ev → ¬ S ev) : DevAt w' gd gs b root x nb s ls o X := by
  have l1 := h.lt1
  have l2 := h.lt2
  exact ⟨h.dev.but k (h1 gd (by omega) (Nat.le_refl _)) h2, h.slots.but k (h1 gs (Nat.le_refl _) (by omega)), h.cnt.but k (h1 b (by omega) (by omega)) (h1 (b + 1) (by omega) (by omega)), l1, l2, Nat.lt_of_lt_of_le h.lt3 k.size⟩
theorem DevAt.below {w w' : World} {gd gs b : Nat} {root x : Int} {nb : Nat} {s : Slts} {ls : List Cnt} {o : Option Im} {X : Nat → Prop} (h : DevAt w gd gs b root x nb s ls o X) (k : Below w.heap.size w w') : DevAt w' gd gs b root x nb s ls o X :=
  h.but (below_but k (fun _ => False)) (fun _ _ _ h => h) (fun _ _ _ _ h => h)
theorem DevAt.mono {w : World} {gd gs b : Nat} {root x : Int} {nb : Nat} {s : Slts} {ls : List Cnt} {o : Option Im} {X Y : Nat → Prop} (h : DevAt w gd gs b root x nb s ls o X) (hy : ∀ k, gd < k → k < w.heap.size → ¬ X k → ¬ Y k) : DevAt w gd gs b root x nb s ls o Y := by
  refine ⟨?_, h.slots, h.cnt, h.lt1, h.lt2, h.lt3⟩
  have hd := h.dev
  rcases o with _ | m
  · exact hd
  · obtain ⟨ev, y0, y1, y2, y3, y4, y5, y6, y7, a1, a2, a3, a4, a5, a6⟩ := hd
    exact ⟨ev, y0, y1, y2, y3, y4, y5, y6, y7, a1, a2, a3, a4, hy ev a3 a4 a5, a6⟩

theorem dNew_on (root x : Int) (n : ByteArray) (v : Int) (c : ByteArray) (p a : Int) (w : World) (h1 : okIn root = true) (h2 : okSecret x = true) (hn : n.size ≤ 140737488351232) (hc : c.size ≤ 140737488351232) (hi : imgE n v c = 0) :
    Calls Tryz.prog 9 #[.int .i64 root, .int .i64 x, .agg #[.string n, .int .i64 v, .string c, .int .i64 p, .int .i64 a]] w fun e w' => ∃ gd b gs : Nat, e = .returned (.tuple #[.pointer (some ⟨gd, 0, none⟩), errV 0]) ∧ (∀ X, DevAt w' gd gs b root x 0 (sd0 n v c p a) [] none X) ∧ w.heap.size ≤ gs ∧ Below w.heap.size w w' := by
  refine (devNew_on root x n v c p a w h1 h2 hn hc hi).mono ?_
  rintro e w' ⟨gd, b, gs, he, hD, hB, hC, l1, l2, l3, hb⟩
  exact ⟨gd, b, gs, he, fun X => ⟨hD, hB, hC, l2, l3, hD.lt⟩, l1, hb⟩

section
variable (w : World) (gd gs b : Nat) (root x : Int) (nb : Nat) (s : Slts) (ls : List Cnt) (o : Option Im) (X : Nat → Prop) (h : DevAt w gd gs b root x nb s ls o X)
include h
theorem dUpdate_any (hs : Inv s) (A : Option Addr) (c : Nat) (cs : List (Int × Int × Int)) (zn : ByteArray) (zv : Int) (zc : ByteArray) (zp za : Int) (hA : CertsAt w A cs) (hl : cs.length ≤ 100000000000000) (h3 : zn.size ≤ 140737488351232) (h4 : zc.size ≤ 140737488351232) (ht : TabT w) (hX : ∀ j, X j → gd < j) :
    Calls Tryz.prog 14 #[.pointer (some ⟨gd, 0, none⟩), .slice A cs.length c, .agg #[.string zn, .int .i64 zv, .string zc, .int .i64 zp, .int .i64 za]] w fun e w' => e = .returned (errV (doE root cs ls s (zn, zv, zc, zp, za))) ∧ DevAt w' gd gs b root x nb (doS root cs ls s (zn, zv, zc, zp, za)) ls o X ∧ But (fun k => k = gs) w w' := by
  obtain ⟨q4, q5, q6, q7, q8, q9, q10, q11, q12, q13, q14, q15, q16, hD⟩ := h.dev.any
  have l1 := h.lt1
  have l2 := h.lt2
  refine (devUpdate_any root x gd gs b q4 q5 q6 q7 q8 q9 q10 q11 q12 q13 q14 q15 q16 s w hD h.slots hs (by omega) A c cs ls zn zv zc zp za nb hA hl h.cnt h3 h4 ht).mono ?_
  rintro e w' ⟨he, hB, hk⟩
  exact ⟨he, ⟨h.dev.but hk (by intro e; omega) (fun ev h1 _ _ e => by have : ev = gs := e; omega), hB, h.cnt.but hk (by intro e; omega) (by intro e; omega), l1, l2, Nat.lt_of_lt_of_le h.lt3 hk.size⟩, hk⟩
theorem dGood_off (ho : o = none) : Calls Tryz.prog 27 #[.pointer (some ⟨gd, 0, none⟩)] w fun e w' => e = .returned (errV 6) ∧ Below w.heap.size w w' := by
  subst ho
  exact devGood_off root x w gd b gs h.dev
theorem dRuns_off (ho : o = none) : Calls Tryz.prog 19 #[.pointer (some ⟨gd, 0, none⟩)] w fun e w' => e = .returned (.tuple #[.agg #[.string ⟨#[]⟩, .int .i64 0, .string ⟨#[]⟩], errV 6]) ∧ Below w.heap.size w w' := by
  subst ho
  exact devRuns_off root x w gd b gs h.dev
theorem dTell_off (ho : o = none) (k m d : Int) : Calls Tryz.prog 11 #[.pointer (some ⟨gd, 0, none⟩), .int .i64 k, .int .i64 m, .int .i64 d] w fun e w' => e = .returned (.tuple #[.agg #[.int .i64 0, .int .i64 0, .int .i64 0, .int .i64 0, .int .i64 0], .slice none 0 0, errV 6]) ∧ Below w.heap.size w w' := by
  subst ho
  exact devTell_off root x w gd b gs h.dev k m d
theorem dRuns_on (n : ByteArray) (v : Int) (c : ByteArray) (ho : o = some (n, v, c)) : Calls Tryz.prog 19 #[.pointer (some ⟨gd, 0, none⟩)] w fun e w' => e = .returned (.tuple #[.agg #[.string n, .int .i64 v, .string c], errV 0]) ∧ Below w.heap.size w w' := by
  subst ho
  obtain ⟨ev, y0, y1, y2, y3, y4, y5, y6, y7, a1, a2, a3, a4, a5, a6⟩ := h.dev
  exact devRuns_on root x n v c w gd b gs ev y0 y1 y2 y3 y4 y5 y6 y7 a6
theorem dTell_on (n : ByteArray) (v : Int) (c : ByteArray) (ho : o = some (n, v, c)) (k m d : Int) (V : Int × Int × Int × Int × Int) (hV : V = mkV x k m d (evBank [(0, imgM n v c)])) (E : Int) (hM : mkE x k m d (evBank [(0, imgM n v c)]) = E) :
    Calls Tryz.prog 11 #[.pointer (some ⟨gd, 0, none⟩), .int .i64 k, .int .i64 m, .int .i64 d] w fun e w' => ∃ (A' : Option Addr) (c' : Nat), e = .returned (.tuple #[.agg #[.int .i64 V.1, .int .i64 V.2.1, .int .i64 V.2.2.1, .int .i64 V.2.2.2.1, .int .i64 V.2.2.2.2], .slice A' (tellEs E (imgM n v c)).length c', errV E]) ∧ EvsAt w' A' (tellEs E (imgM n v c)) ∧ Below w.heap.size w w' := by
  subst ho
  obtain ⟨ev, y0, y1, y2, y3, y4, y5, y6, y7, a1, a2, a3, a4, a5, a6⟩ := h.dev
  exact devTell_on root x gd gs b ev y0 y1 y2 y3 y4 y5 y6 y7 (imgM n v c) n v c k m d w a6 a2 V (by rw [a1]; exact hV) E (by rw [a1]; exact hM)
theorem dGood_on (n : ByteArray) (v : Int) (c : ByteArray) (ho : o = some (n, v, c)) (hnb : nb ≤ 1000000) (hl : ls.length ≤ 12) (hz : n.size ≤ 140737488351232) :
    Calls Tryz.prog 27 #[.pointer (some ⟨gd, 0, none⟩)] w fun e w' => e = .returned (errV (dgE s ls n v)) ∧ (∃ n', n' ≤ nb + 1 ∧ DevAt w' gd gs b root x n' (goodS s) (dgL s ls n v) o X) ∧ But (fun k => k = gs ∨ k = b) w w' := by
  have hd := h.dev
  have h3 := h.lt3
  subst ho
  have l1 := h.lt1
  have l2 := h.lt2
  obtain ⟨ev, y0, y1, y2, y3, y4, y5, y6, y7, a1, a2, a3, a4, a5, a6⟩ := h.dev
  refine (devGood_on root x gd gs b nb (.int .i64 y0) (.int .i64 y1) (.int .i64 y2) (.int .i64 y3) (.int .i64 y4) (.int .i64 y5) (.int .i64 y6) (.int .i64 y7) (.slice (some ⟨ev, 0, none⟩) 1 1) n v c s ls w a6 h.slots h.cnt l1 l2 hnb hl hz).mono ?_
  rintro e w' ⟨he, hB, ⟨n', hn', hC⟩, hk⟩
  exact ⟨he, ⟨n', hn', hd.but hk (by intro e; omega) (fun ev h1 _ _ e => by omega), hB, hC, l1, l2, Nat.lt_of_lt_of_le h3 hk.size⟩, hk⟩
theorem dStart_any (hs : Inv s) (w0 : World) (h0 : Below w0.heap.size w0 w) (hg0 : w0.heap.size ≤ gs) (hi : imgE (s.at_ s.pick).n (s.at_ s.pick).v (s.at_ s.pick).c = 0) (ht : TabT w0) (hX : ∀ k, X k → k < w.heap.size) :
    Calls Tryz.prog 10 #[.pointer (some ⟨gd, 0, none⟩)] w fun e w' => e = .returned (.bool (!(rI s.pick == rI s.safe))) ∧ DevAt w' gd gs b root x nb (startS s) ls (some ((s.at_ s.pick).n, (s.at_ s.pick).v, (s.at_ s.pick).c)) X ∧ But (fun k => k = gs ∨ k = gd) w w' := by
  obtain ⟨q4, q5, q6, q7, q8, q9, q10, q11, q12, q13, q14, q15, q16, hD⟩ := h.dev.any
  have l1 := h.lt1
  have l2 := h.lt2
  have l3 := h.lt3
  refine (devStart_any root x w0 w gd b gs s q4 q5 q6 q7 q8 q9 q10 q11 q12 q13 q14 q15 q16 hD h.slots hs (by omega) h0 hg0 hi ht).mono ?_
  rintro e w' ⟨he, ⟨n, v, c, ev, y0, y1, y2, y3, y4, y5, y6, y7, rfl, rfl, rfl, hy, hE, he1, he2, hD'⟩, hB, hk⟩
  exact ⟨he, ⟨⟨ev, y0, y1, y2, y3, y4, y5, y6, y7, hy, hE, by omega, he1, fun hx => by have := hX _ hx; omega, hD'⟩, hB, h.cnt.but hk (by intro e; omega) (by intro e; omega), l1, l2, Nat.lt_of_lt_of_le l3 hk.size⟩, hk⟩
end

end Go.Proofs.YtdedllfgeekogaaGreatDoor
