/- device over any slots, and counts: New, Update, Good, Tell. A device in memory, off or on: what each of its functions leaves. -/
import Derived.Test.YtdedllfgeekogaaDoorRows
import Derived.Test.YtdedllfgeekogaaDoorNum
import Derived.Test.YtdedllfgeekogaaDoorBase
import Derived.Test.YtdedllfgeekogaaDoorKey
import Derived.Test.YtdedllfgeekogaaDoorOpI
import Derived.Test.YtdedllfgeekogaaDoorOpE
import Derived.Test.YtdedllfgeekogaaDoorEvent
import Derived.Test.YtdedllfgeekogaaDoorImg
import Derived.Test.YtdedllfgeekogaaDoorImg2
import Derived.Test.YtdedllfgeekogaaDoorSign2
import Derived.Test.YtdedllfgeekogaaDoorFoot
import Derived.Test.YtdedllfgeekogaaDoorLiftT
import Derived.Test.YtdedllfgeekogaaDoorSlot
import Derived.Test.YtdedllfgeekogaaDoorSInv
import Derived.Test.YtdedllfgeekogaaDoorCount
import Derived.Test.YtdedllfgeekogaaDoorQuietC
import Derived.Test.YtdedllfgeekogaaDoorCert
import Derived.Test.YtdedllfgeekogaaDoorBank
import Derived.Test.YtdedllfgeekogaaDoorQuote
import Derived.Test.YtdedllfgeekogaaDoorCntP
import Derived.Test.YtdedllfgeekogaaDoorCntC
import Derived.Test.YtdedllfgeekogaaDoorApp
import Derived.Test.YtdedllfgeekogaaDoorUpdP
import Derived.Test.YtdedllfgeekogaaDoorUpd
import Derived.Test.YtdedllfgeekogaaDoorDev
import Derived.WalkKit
import Derived.WalkSpells
import Derived.Lib.Hide
import Derived.Deep.DeepCutAuto
import Derived.Deep.RegionHeld3
import Derived.Deep.QuietTactic
import Derived.BigQuiet
import Derived.RegionTactic
import Derived.BigRegion
namespace Go.Proofs.YtdedllfgeekogaaDoor
open Go.RowKit
set_option maxRecDepth 100000
set_option linter.unusedSimpArgs false
set_option linter.unusedVariables false

theorem infoEv_3 : (Tryd.prog.info? 98).map (fun i => (i.zero, i.size, i.bytes)) = some (some (.agg #[.int .i64 0, .int .i64 0]), 2, 16) := by kernel_rfl
theorem hasL_nil4 : hasL [] = fun _ => false := by funext t; rfl
theorem ofL_nil4 : ofL [] = fun _ => 0 := by funext t; rfl
theorem new_c4 (w : World) :
    Calls Tryd.prog 52 #[] w fun e w' => ∃ b : Nat, e = .returned (.pointer (some ⟨b + 1, 0, none⟩)) ∧ w.heap.size ≤ b ∧ b + 1 < w'.heap.size ∧ CE w' b 0 [] ∧ Below w.heap.size w w' := by
  refine (countNewE_any w).mono ?_
  rintro e w' ⟨rfl, h, hb⟩
  refine ⟨_, rfl, Nat.le_refl _, ?_, ?_, hb⟩
  · obtain ⟨D, h1, _⟩ := h
    exact h1.lt
  · unfold CE
    rw [hasL_nil4, ofL_nil4]
    exact h
set_option maxHeartbeats 1000000 in
theorem devNew_on (root x : Int) (n : ByteArray) (v : Int) (c : ByteArray) (p a : Int) (w : World) (h1 : okIn root = true) (h2 : okSecret x = true) (hn : n.size ≤ 140737488351232) (hc : c.size ≤ 140737488351232) (hi : imgE n v c = 0) :
    Calls Tryd.prog 17 #[.int .i64 root, .int .i64 x, .agg #[.string n, .int .i64 v, .string c, .int .i64 p, .int .i64 a]] w fun e w' => ∃ gd b gs : Nat, e = .returned (.tuple #[.pointer (some ⟨gd, 0, none⟩), errV 0]) ∧ Box w' gd 117 #[.int .i64 root, .int .i64 x, .pointer (some ⟨b + 1, 0, none⟩), .pointer (some ⟨gs, 0, none⟩), .int .i64 0, .int .i64 0, .int .i64 0, .int .i64 0, .int .i64 0, .int .i64 0, .int .i64 0, .int .i64 0, .slice none 0 0, .string ⟨#[]⟩, .int .i64 0, .string ⟨#[]⟩, .bool false] ∧ Box w' gs 148 (sd0 n v c p a).cs ∧ CE w' b 0 [] ∧ w.heap.size ≤ gs ∧ gs < b ∧ b + 1 < gd ∧ Below w.heap.size w w' := by
  have en := fun k w => err_neq k w
  have gn := fun o k w => err_guard_neq o k w
  have HS := Lib.hid (fun w => slotNew_yes n v c p a w (by omega) (by omega) hi)
  clear hi
  go_enter Tryd.func17, Tryd.ntmps17
  go_wp2_with (first | (go_at_call 43; refine (in_any _ _).mono ?_; rintro e w' ⟨rfl, rfl⟩; rw [h1]) | (go_at_call 33; refine (secret_any _ _).mono ?_; rintro e w' ⟨rfl, rfl⟩; rw [h2]))
  refine (HS.out _).mono ?_
  rintro e w1 ⟨gs, rfl, hB1, hg1, hb1⟩
  have HB1 : Hid (Box w1 gs 148 (sd0 n v c p a).cs) := Lib.hid hB1
  have hbw1 : Below w.heap.size w w1 := grow_step (grow_alloc (grow_refl _) _) hb1
  have hgw : w.heap.size ≤ gs := by simp at hg1; omega
  clear hB1 hb1 hg1
  go_wp2_with fail
  refine (new_c4 _).mono ?_
  rintro e w2 ⟨b, rfl, hbs, hbl, hC2, hb2⟩
  have HB2 := Lib.hid (HB1.out.below hb2)
  have HC2 := Lib.hid hC2
  have hlt : gs < b := Nat.lt_of_lt_of_le HB1.out.lt hbs
  have hbw2 : Below w.heap.size w w2 := grow_step hbw1 hb2
  clear hb2 hC2 hbs
  go_wp2_with fail
  go_ret2
  exact ⟨w2.heap.size, b, gs, rfl, Box.new _ _ _, HB2.out.alloc_ _, HC2.out.below (grow_alloc (grow_refl _) _), hgw, hlt, hbl, (by repeat (first | (with_reducible exact grow_refl _) | (with_reducible assumption) | (with_reducible refine grow_alloc ?_ _) | (with_reducible refine grow_set ?_ (by first | exact Nat.le_refl _ | (simp; done) | (simp; omega) | omega) _) | (with_reducible refine grow_drewN ?_ _) | (with_reducible refine grow_drew ?_) | (with_reducible refine grow_step ?_ (by assumption)) | (with_reducible refine grow_base ?_ (by assumption))))⟩


section
variable (root x : Int) (gd gs b : Nat) (q4 q5 q6 q7 q8 q9 q10 q11 q12 q13 q14 q15 q16 : Value) (s : Slts) (w : World) (hD : Box w gd 117 #[.int .i64 root, .int .i64 x, .pointer (some ⟨b + 1, 0, none⟩), .pointer (some ⟨gs, 0, none⟩), q4, q5, q6, q7, q8, q9, q10, q11, q12, q13, q14, q15, q16]) (hB : Box w gs 148 s.cs) (hs : Inv s) (hg : gs < gd)
include hD hB hs hg
set_option maxHeartbeats 2000000 in
theorem devUpdate_any (A : Option Addr) (c : Nat) (cs : List (Int × Int × Int)) (ls : List Cnt) (zn : ByteArray) (zv : Int) (zc : ByteArray) (zp za : Int) (n : Nat) (hA : CertsAt w A cs) (hl : cs.length ≤ 100000000000000) (hC : CE w b n ls) (h3 : zn.size ≤ 140737488351232) (h4 : zc.size ≤ 140737488351232) (ht : TabT w) :
    Calls Tryd.prog 18 #[.pointer (some ⟨gd, 0, none⟩), .slice A cs.length c, .agg #[.string zn, .int .i64 zv, .string zc, .int .i64 zp, .int .i64 za]] w fun e w' => e = .returned (errV (doE root cs ls s (zn, zv, zc, zp, za))) ∧ Box w' gs 148 (doS root cs ls s (zn, zv, zc, zp, za)).cs ∧ But (fun k => k = gs) w w' := by
  have HM := Lib.hid (fun w hA hC hB ht => updDo_any root A c cs ls zn zv zc zp za gs s b n w hA hl hC hB hs h3 h4 ht)
  obtain ⟨E, hE⟩ : ∃ E, doE root cs ls s (zn, zv, zc, zp, za) = E := ⟨_, rfl⟩
  obtain ⟨s', hs'⟩ : ∃ s', doS root cs ls s (zn, zv, zc, zp, za) = s' := ⟨_, rfl⟩
  rw [hE, hs'] at HM ⊢
  have HA := Lib.hid hA
  have HC := Lib.hid hC
  have HT := Lib.hid ht
  have HD := Lib.hid (hD.alloc_ (.cells #[.string zn, .int .i64 zv, .string zc, .int .i64 zp, .int .i64 za] 34))
  have HB := Lib.hid (hB.alloc_ (.cells #[.string zn, .int .i64 zv, .string zc, .int .i64 zp, .int .i64 za] 34))
  have HZ := Lib.hid (Box.new w 34 #[.string zn, .int .i64 zv, .string zc, .int .i64 zp, .int .i64 za])
  have hne : gd ≠ gs := by omega
  have hnz : w.heap.size ≠ gs := by have := hB.lt; omega
  clear hA hC ht hD hB hs hE hs'
  go_enter Tryd.func18, Tryd.ntmps18
  go_wp2_with fail
  have GD := HD.out.drew_
  have GZ := HZ.out.drew_
  have GB := HB.out.drew_
  have GW : Below w.heap.size w (w.alloc (.cells #[.string zn, .int .i64 zv, .string zc, .int .i64 zp, .int .i64 za] 34)).drew := grow_drew (grow_alloc (grow_refl _) _)
  clear HD HZ HB
  go_region_held3 (fun w' => (∀ i, w'.cell? ⟨gd, i, none⟩ = (#[.int .i64 root, .int .i64 x, .pointer (some ⟨b + 1, 0, none⟩), .pointer (some ⟨gs, 0, none⟩), q4, q5, q6, q7, q8, q9, q10, q11, q12, q13, q14, q15, q16] : Array Value)[i]?) ∧ (∀ i, w'.cell? ⟨w.heap.size, i, none⟩ = (#[.string zn, .int .i64 zv, .string zc, .int .i64 zp, .int .i64 za] : Array Value)[i]?))
    (first
      | exact ⟨GD.cell, GZ.cell⟩
      | (go_keep; done))
    (first
      | (go_at_call 53; refine (HM.out _ (HA.out.below GW) (HC.out.below GW) GB (HT.out.below GW)).mono ?_; rintro e w5 ⟨rfl, hB5, hk5⟩; have GB := hB5; have GD := GD.but hk5 hne; have GZ := GZ.but hk5 hnz; have GT := (below_but GW (fun k => k = gs)).trans hk5 (fun _ _ h => h)))
  go_wp2_with fail
  go_ret
  exact ⟨rfl, GB, GT⟩
end

def dgE (s : Slts) (ls : List Cnt) (n : ByteArray) (v : Int) : Int := if (s.at_ s.r).g then 7 else raiseE ls n v
def dgL (s : Slts) (ls : List Cnt) (n : ByteArray) (v : Int) : List Cnt := if (s.at_ s.r).g then ls else raiseL ls n v
set_option maxHeartbeats 2000000 in
theorem devGood_on (root x : Int) (gd gs b nb : Nat) (q4 q5 q6 q7 q8 q9 q10 q11 q12 : Value) (n : ByteArray) (v : Int) (c : ByteArray) (s : Slts) (ls : List Cnt) (w : World) (hD : Box w gd 117 #[.int .i64 root, .int .i64 x, .pointer (some ⟨b + 1, 0, none⟩), .pointer (some ⟨gs, 0, none⟩), q4, q5, q6, q7, q8, q9, q10, q11, q12, .string n, .int .i64 v, .string c, .bool true]) (hB : Box w gs 148 s.cs) (hC : CE w b nb ls)
    (hgb : gs < b) (hbd : b + 1 < gd) (hnb : nb ≤ 1000000) (hl : ls.length ≤ 12) (hz : n.size ≤ 140737488351232) :
    Calls Tryd.prog 21 #[.pointer (some ⟨gd, 0, none⟩)] w fun e w' => e = .returned (errV (dgE s ls n v)) ∧ Box w' gs 148 (goodS s).cs ∧ (∃ n', n' ≤ nb + 1 ∧ CE w' b n' (dgL s ls n v)) ∧ But (fun k => k = gs ∨ k = b) w w' := by
  have en := fun k w => err_neq k w
  have gn := fun o k w => err_guard_neq o k w
  have HGD := Lib.hid (fun w h => goodC gs s w h)
  have HM := Lib.hid (fun w h => cRaise_any b nb ls n v w h hz hnb hl)
  obtain ⟨s', hs'⟩ : ∃ s', goodS s = s' := ⟨_, rfl⟩
  rw [hs'] at HGD ⊢
  have hne : gd ≠ gs := by omega
  have HD := Lib.hid hD
  have HB := Lib.hid hB
  have HC := Lib.hid hC
  have cD := hD.cell
  have lD := hD.lt
  clear hD hB hC hs'
  unfold goodE at HGD
  unfold dgE dgL
  cases hg : (s.at_ s.r).g
  · rw [hg] at HGD
    simp only [Bool.false_eq_true, if_false] at HGD ⊢
    obtain ⟨E, hE⟩ : ∃ E, raiseE ls n v = E := ⟨_, rfl⟩
    obtain ⟨l', hl'⟩ : ∃ l', raiseL ls n v = l' := ⟨_, rfl⟩
    rw [hE, hl'] at HM ⊢
    clear hE hl' hg
    go_enter Tryd.func21, Tryd.ntmps21
    go_wp2_with fail
    refine (HGD.out _ HB.out).mono ?_
    rintro e w1 ⟨rfl, hB1, hk1⟩
    have HD1 := Lib.hid (HD.out.but hk1 hne)
    have HB1 := Lib.hid hB1
    have HC1 := Lib.hid (HC.out.but hk1 (by intro e; have : b = gs := e; omega) (by intro e; have : b + 1 = gs := e; omega))
    have HK1 := Lib.hid hk1
    clear hB1 hk1 cD lD HD HB HC
    go_wp2_with fail
    have GD := HD1.out.drew_
    have GB := HB1.out.drew_
    have GC := HC1.out.below (grow_drew (grow_refl _))
    have GT : But (fun k => k = gs ∨ k = b) w w1.drew := (HK1.out.mono (fun k _ h => Or.inl h)).drew
    go_region_held3 (fun w' => (∀ i, w'.cell? ⟨gd, i, none⟩ = (#[.int .i64 root, .int .i64 x, .pointer (some ⟨b + 1, 0, none⟩), .pointer (some ⟨gs, 0, none⟩), q4, q5, q6, q7, q8, q9, q10, q11, q12, .string n, .int .i64 v, .string c, .bool true] : Array Value)[i]?))
      (first
        | (with_reducible exact GD.cell)
        | (go_keep; done))
      (first
        | (go_at_call 60; refine (HM.out _ GC).mono ?_; rintro e w5 ⟨rfl, ⟨n', hn', hC5⟩, hk5⟩; have GB := GB.but hk5 (by intro h; have : gs = b := h; omega); have GT := GT.trans hk5 (fun k _ h => Or.inr h); have GC := hC5; have GD := GD.but hk5 (by intro h; have : gd = b := h; omega)))
    go_wp2_with fail
    go_ret
    exact ⟨rfl, GB, ⟨n', hn', GC⟩, GT⟩
  · rw [hg] at HGD
    simp only [if_true] at HGD ⊢
    clear hg HM
    go_enter Tryd.func21, Tryd.ntmps21
    go_wp2_with fail
    refine (HGD.out _ HB.out).mono ?_
    rintro e w1 ⟨rfl, hB1, hk1⟩
    have HB1 := Lib.hid hB1
    have HC1 := Lib.hid (HC.out.but hk1 (by intro e; have : b = gs := e; omega) (by intro e; have : b + 1 = gs := e; omega))
    have HK1 := Lib.hid hk1
    clear hB1 hk1 cD lD HD HB HC
    go_wp2_with fail
    go_ret
    exact ⟨rfl, HB1.out, ⟨nb, by omega, HC1.out⟩, HK1.out.mono (fun k _ h => Or.inl h)⟩

theorem But.five (w : World) (b : Nat) (u0 u1 u2 u3 u4 : Value) : But (fun j => j = b) w (((((w.setCell ⟨b, 0, none⟩ u0).setCell ⟨b, 1, none⟩ u1).setCell ⟨b, 2, none⟩ u2).setCell ⟨b, 3, none⟩ u3).setCell ⟨b, 4, none⟩ u4) :=
  (((((But.refl (fun j => j = b) w).setCell (p := ⟨b, 0, none⟩) (Or.inl rfl) u0).setCell (p := ⟨b, 1, none⟩) (Or.inl rfl) u1).setCell (p := ⟨b, 2, none⟩) (Or.inl rfl) u2).setCell (p := ⟨b, 3, none⟩) (Or.inl rfl) u3).setCell (p := ⟨b, 4, none⟩) (Or.inl rfl) u4
theorem EvsAt.but' {S : Nat → Prop} {w w' : World} {A : Option Addr} {es : List (Int × Int)} (h : EvsAt w A es) (k : But S w w') (hn : ∀ a, A = some a → es ≠ [] → ¬ S a.block) : EvsAt w' A es := fun i hi => by
  obtain ⟨b, off, e, hlt, h1, h2⟩ := h i hi
  have hx : es ≠ [] := fun h => by subst h; simp at hi
  have eb := k.block b hlt (hn _ e hx)
  exact ⟨b, off, e, Nat.lt_of_lt_of_le hlt k.size, (World.cell?_of_block (w := w) (a := ⟨b, off + i * 2, none⟩) eb).trans h1, (World.cell?_of_block (w := w) (a := ⟨b, off + i * 2 + 1, none⟩) eb).trans h2⟩
theorem EvsAt.but_ {S : Nat → Prop} {w w' : World} {b : Nat} {es : List (Int × Int)} (h : EvsAt w (some ⟨b, 0, none⟩) es) (k : But S w w') (hn : ¬ S b) : EvsAt w' (some ⟨b, 0, none⟩) es := fun i hi => by
  obtain ⟨b', off, e, hlt, h1, h2⟩ := h i hi
  injection e with e
  injection e with q1 q2
  subst q1; subst q2
  have eb := k.block b hlt hn
  exact ⟨b, 0, rfl, Nat.lt_of_lt_of_le hlt k.size, (World.cell?_of_block (w := w) (a := ⟨b, 0 + i * 2, none⟩) eb).trans h1, (World.cell?_of_block (w := w) (a := ⟨b, 0 + i * 2 + 1, none⟩) eb).trans h2⟩

def tellEs (E M : Int) : List (Int × Int) := if E = 0 then [(0, M)] else []

end Go.Proofs.YtdedllfgeekogaaDoor

namespace Go.Proofs.YtdedllfgeekogaaDoor
open Go.RowKit
set_option maxRecDepth 100000
set_option linter.unusedVariables false

abbrev Im := ByteArray × Int × ByteArray
def DOFF (root x : Int) (b gs : Nat) : Array Value := #[.int .i64 root, .int .i64 x, .pointer (some ⟨b + 1, 0, none⟩), .pointer (some ⟨gs, 0, none⟩), .int .i64 0, .int .i64 0, .int .i64 0, .int .i64 0, .int .i64 0, .int .i64 0, .int .i64 0, .int .i64 0, .slice none 0 0, .string ⟨#[]⟩, .int .i64 0, .string ⟨#[]⟩, .bool false]
def DON (root x : Int) (b gs ev : Nat) (y0 y1 y2 y3 y4 y5 y6 y7 : Int) (m : Im) : Array Value := #[.int .i64 root, .int .i64 x, .pointer (some ⟨b + 1, 0, none⟩), .pointer (some ⟨gs, 0, none⟩), .int .i64 y0, .int .i64 y1, .int .i64 y2, .int .i64 y3, .int .i64 y4, .int .i64 y5, .int .i64 y6, .int .i64 y7, .slice (some ⟨ev, 0, none⟩) 1 1, .string m.1, .int .i64 m.2.1, .string m.2.2, .bool true]
/-- The device's own cells: off, or what it started; its events lie apart from X. -/
def DevBox (w : World) (gd gs b : Nat) (root x : Int) (X : Nat → Prop) : Option Im → Prop
  | none => Box w gd 117 (DOFF root x b gs)
  | some m => ∃ (ev : Nat) (y0 y1 y2 y3 y4 y5 y6 y7 : Int), [y0, y1, y2, y3, y4, y5, y6, y7] = evBank [(0, imgM m.1 m.2.1 m.2.2)] ∧ EvsAt w (some ⟨ev, 0, none⟩) [(0, imgM m.1 m.2.1 m.2.2)] ∧ gd < ev ∧ ev < w.heap.size ∧ ¬ X ev ∧ Box w gd 117 (DON root x b gs ev y0 y1 y2 y3 y4 y5 y6 y7 m)
structure DevAt (w : World) (gd gs b : Nat) (root x : Int) (nb : Nat) (s : Slts) (ls : List Cnt) (o : Option Im) (X : Nat → Prop) : Prop where
  dev : DevBox w gd gs b root x X o
  slots : Box w gs 148 s.cs
  cnt : CE w b nb ls
  lt1 : gs < b
  lt2 : b + 1 < gd
  lt3 : gd < w.heap.size

theorem DevBox.but {S : Nat → Prop} {w w' : World} {gd gs b : Nat} {root x : Int} {X : Nat → Prop} {o : Option Im} (h : DevBox w gd gs b root x X o) (k : But S w w') (h1 : ¬ S gd) (h2 : ∀ ev, gd < ev → ev < w.heap.size → ¬ X ev → ¬ S ev) : DevBox w' gd gs b root x X o := by
  rcases o with _ | m
  · exact Box.but h k h1
  · obtain ⟨ev, y0, y1, y2, y3, y4, y5, y6, y7, a1, a2, a3, a4, a5, a6⟩ := h
    exact ⟨ev, y0, y1, y2, y3, y4, y5, y6, y7, a1, a2.but_ k (h2 ev a3 a4 a5), a3, Nat.lt_of_lt_of_le a4 k.size, a5, a6.but k h1⟩
theorem DevBox.any {w : World} {gd gs b : Nat} {root x : Int} {X : Nat → Prop} {o : Option Im} (h : DevBox w gd gs b root x X o) : ∃ q4 q5 q6 q7 q8 q9 q10 q11 q12 q13 q14 q15 q16, Box w gd 117 #[.int .i64 root, .int .i64 x, .pointer (some ⟨b + 1, 0, none⟩), .pointer (some ⟨gs, 0, none⟩), q4, q5, q6, q7, q8, q9, q10, q11, q12, q13, q14, q15, q16] := by
  rcases o with _ | m
  · exact ⟨_, _, _, _, _, _, _, _, _, _, _, _, _, h⟩
  · obtain ⟨ev, y0, y1, y2, y3, y4, y5, y6, y7, a1, a2, a3, a4, a5, a6⟩ := h
    exact ⟨_, _, _, _, _, _, _, _, _, _, _, _, _, a6⟩
theorem DevAt.but {S : Nat → Prop} {w w' : World} {gd gs b : Nat} {root x : Int} {nb : Nat} {s : Slts} {ls : List Cnt} {o : Option Im} {X : Nat → Prop} (h : DevAt w gd gs b root x nb s ls o X) (k : But S w w') (h1 : ∀ j, gs ≤ j → j ≤ gd → ¬ S j) (h2 : ∀ ev, gd < ev → ev < w.heap.size → ¬ X ev → ¬ S ev) : DevAt w' gd gs b root x nb s ls o X := by
  have l1 := h.lt1
  have l2 := h.lt2
  exact ⟨h.dev.but k (h1 gd (by omega) (Nat.le_refl _)) h2, h.slots.but k (h1 gs (Nat.le_refl _) (by omega)), h.cnt.but k (h1 b (by omega) (by omega)) (h1 (b + 1) (by omega) (by omega)), l1, l2, Nat.lt_of_lt_of_le h.lt3 k.size⟩
theorem DevAt.below {w w' : World} {gd gs b : Nat} {root x : Int} {nb : Nat} {s : Slts} {ls : List Cnt} {o : Option Im} {X : Nat → Prop} (h : DevAt w gd gs b root x nb s ls o X) (k : Below w.heap.size w w') : DevAt w' gd gs b root x nb s ls o X :=
  h.but (below_but k (fun _ => False)) (fun _ _ _ h => h) (fun _ _ _ _ h => h)
theorem DevAt.mono {w : World} {gd gs b : Nat} {root x : Int} {nb : Nat} {s : Slts} {ls : List Cnt} {o : Option Im} {X Y : Nat → Prop} (h : DevAt w gd gs b root x nb s ls o X) (hy : ∀ k, gd < k → k < w.heap.size → ¬ X k → ¬ Y k) : DevAt w gd gs b root x nb s ls o Y := by
  refine ⟨?_, h.slots, h.cnt, h.lt1, h.lt2, h.lt3⟩
  have hd := h.dev
  rcases o with _ | m
  · exact hd
  · obtain ⟨ev, y0, y1, y2, y3, y4, y5, y6, y7, a1, a2, a3, a4, a5, a6⟩ := hd
    exact ⟨ev, y0, y1, y2, y3, y4, y5, y6, y7, a1, a2, a3, a4, hy ev a3 a4 a5, a6⟩

theorem dNew_on (root x : Int) (n : ByteArray) (v : Int) (c : ByteArray) (p a : Int) (w : World) (h1 : okIn root = true) (h2 : okSecret x = true) (hn : n.size ≤ 140737488351232) (hc : c.size ≤ 140737488351232) (hi : imgE n v c = 0) :
    Calls Tryd.prog 17 #[.int .i64 root, .int .i64 x, .agg #[.string n, .int .i64 v, .string c, .int .i64 p, .int .i64 a]] w fun e w' => ∃ gd b gs : Nat, e = .returned (.tuple #[.pointer (some ⟨gd, 0, none⟩), errV 0]) ∧ (∀ X, DevAt w' gd gs b root x 0 (sd0 n v c p a) [] none X) ∧ w.heap.size ≤ gs ∧ Below w.heap.size w w' := by
  refine (devNew_on root x n v c p a w h1 h2 hn hc hi).mono ?_
  rintro e w' ⟨gd, b, gs, he, hD, hB, hC, l1, l2, l3, hb⟩
  exact ⟨gd, b, gs, he, fun X => ⟨hD, hB, hC, l2, l3, hD.lt⟩, l1, hb⟩

section
variable (w : World) (gd gs b : Nat) (root x : Int) (nb : Nat) (s : Slts) (ls : List Cnt) (o : Option Im) (X : Nat → Prop) (h : DevAt w gd gs b root x nb s ls o X)
include h
theorem dUpdate_any (hs : Inv s) (A : Option Addr) (c : Nat) (cs : List (Int × Int × Int)) (zn : ByteArray) (zv : Int) (zc : ByteArray) (zp za : Int) (hA : CertsAt w A cs) (hl : cs.length ≤ 100000000000000) (h3 : zn.size ≤ 140737488351232) (h4 : zc.size ≤ 140737488351232) (ht : TabT w) (hX : ∀ j, X j → gd < j) :
    Calls Tryd.prog 18 #[.pointer (some ⟨gd, 0, none⟩), .slice A cs.length c, .agg #[.string zn, .int .i64 zv, .string zc, .int .i64 zp, .int .i64 za]] w fun e w' => e = .returned (errV (doE root cs ls s (zn, zv, zc, zp, za))) ∧ DevAt w' gd gs b root x nb (doS root cs ls s (zn, zv, zc, zp, za)) ls o X ∧ But (fun k => k = gs) w w' := by
  obtain ⟨q4, q5, q6, q7, q8, q9, q10, q11, q12, q13, q14, q15, q16, hD⟩ := h.dev.any
  have l1 := h.lt1
  have l2 := h.lt2
  refine (devUpdate_any root x gd gs b q4 q5 q6 q7 q8 q9 q10 q11 q12 q13 q14 q15 q16 s w hD h.slots hs (by omega) A c cs ls zn zv zc zp za nb hA hl h.cnt h3 h4 ht).mono ?_
  rintro e w' ⟨he, hB, hk⟩
  exact ⟨he, ⟨h.dev.but hk (by intro e; omega) (fun ev h1 _ _ e => by have : ev = gs := e; omega), hB, h.cnt.but hk (by intro e; omega) (by intro e; omega), l1, l2, Nat.lt_of_lt_of_le h.lt3 hk.size⟩, hk⟩
theorem dGood_off (ho : o = none) : Calls Tryd.prog 21 #[.pointer (some ⟨gd, 0, none⟩)] w fun e w' => e = .returned (errV 6) ∧ Below w.heap.size w w' := by
  subst ho
  exact devGood_off root x w gd b gs h.dev
theorem dRuns_off (ho : o = none) : Calls Tryd.prog 22 #[.pointer (some ⟨gd, 0, none⟩)] w fun e w' => e = .returned (.tuple #[.agg #[.string ⟨#[]⟩, .int .i64 0, .string ⟨#[]⟩], errV 6]) ∧ Below w.heap.size w w' := by
  subst ho
  exact devRuns_off root x w gd b gs h.dev
theorem dRuns_on (n : ByteArray) (v : Int) (c : ByteArray) (ho : o = some (n, v, c)) : Calls Tryd.prog 22 #[.pointer (some ⟨gd, 0, none⟩)] w fun e w' => e = .returned (.tuple #[.agg #[.string n, .int .i64 v, .string c], errV 0]) ∧ Below w.heap.size w w' := by
  subst ho
  obtain ⟨ev, y0, y1, y2, y3, y4, y5, y6, y7, a1, a2, a3, a4, a5, a6⟩ := h.dev
  exact devRuns_on root x n v c w gd b gs ev y0 y1 y2 y3 y4 y5 y6 y7 a6
theorem dGood_on (n : ByteArray) (v : Int) (c : ByteArray) (ho : o = some (n, v, c)) (hnb : nb ≤ 1000000) (hl : ls.length ≤ 12) (hz : n.size ≤ 140737488351232) :
    Calls Tryd.prog 21 #[.pointer (some ⟨gd, 0, none⟩)] w fun e w' => e = .returned (errV (dgE s ls n v)) ∧ (∃ n', n' ≤ nb + 1 ∧ DevAt w' gd gs b root x n' (goodS s) (dgL s ls n v) o X) ∧ But (fun k => k = gs ∨ k = b) w w' := by
  have hd := h.dev
  have h3 := h.lt3
  subst ho
  have l1 := h.lt1
  have l2 := h.lt2
  obtain ⟨ev, y0, y1, y2, y3, y4, y5, y6, y7, a1, a2, a3, a4, a5, a6⟩ := h.dev
  refine (devGood_on root x gd gs b nb (.int .i64 y0) (.int .i64 y1) (.int .i64 y2) (.int .i64 y3) (.int .i64 y4) (.int .i64 y5) (.int .i64 y6) (.int .i64 y7) (.slice (some ⟨ev, 0, none⟩) 1 1) n v c s ls w a6 h.slots h.cnt l1 l2 hnb hl hz).mono ?_
  rintro e w' ⟨he, hB, ⟨n', hn', hC⟩, hk⟩
  exact ⟨he, ⟨n', hn', hd.but hk (by intro e; omega) (fun ev h1 _ _ e => by omega), hB, hC, l1, l2, Nat.lt_of_lt_of_le h3 hk.size⟩, hk⟩
theorem dStart_any (hs : Inv s) (w0 : World) (h0 : Below w0.heap.size w0 w) (hg0 : w0.heap.size ≤ gs) (hi : imgE (s.at_ s.pick).n (s.at_ s.pick).v (s.at_ s.pick).c = 0) (ht : TabT w0) (hX : ∀ k, X k → k < w.heap.size) :
    Calls Tryd.prog 20 #[.pointer (some ⟨gd, 0, none⟩)] w fun e w' => e = .returned (.bool (!(rI s.pick == rI s.safe))) ∧ DevAt w' gd gs b root x nb (startS s) ls (some ((s.at_ s.pick).n, (s.at_ s.pick).v, (s.at_ s.pick).c)) X ∧ But (fun k => k = gs ∨ k = gd) w w' := by
  obtain ⟨q4, q5, q6, q7, q8, q9, q10, q11, q12, q13, q14, q15, q16, hD⟩ := h.dev.any
  have l1 := h.lt1
  have l2 := h.lt2
  have l3 := h.lt3
  refine (devStart_any root x w0 w gd b gs s q4 q5 q6 q7 q8 q9 q10 q11 q12 q13 q14 q15 q16 hD h.slots hs (by omega) h0 hg0 hi ht).mono ?_
  rintro e w' ⟨he, ⟨n, v, c, ev, y0, y1, y2, y3, y4, y5, y6, y7, rfl, rfl, rfl, hy, hE, he1, he2, hD'⟩, hB, hk⟩
  exact ⟨he, ⟨⟨ev, y0, y1, y2, y3, y4, y5, y6, y7, hy, hE, by omega, he1, fun hx => by have := hX _ hx; omega, hD'⟩, hB, h.cnt.but hk (by intro e; omega) (by intro e; omega), l1, l2, Nat.lt_of_lt_of_le l3 hk.size⟩, hk⟩
end

end Go.Proofs.YtdedllfgeekogaaDoor
