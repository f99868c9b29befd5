/- count: the least versions of names, in a map behind a pointer. count: the other ways of Raise, Least, May. count: one Counts of known place, and what it leaves as it was. count: names that are none; the reference's Name. -/
import Derived.Test.YtegiffdlfpdbkaaGreatDoorRows
import Derived.Test.YtegiffdlfpdbkaaGreatDoorNum
import Derived.Test.YtegiffdlfpdbkaaGreatDoorBase
import Derived.Test.YtegiffdlfpdbkaaGreatDoorMeas
import Derived.Test.YtegiffdlfpdbkaaGreatDoorImg
import Derived.WalkKit
import Derived.WalkSpells
import Derived.WalkLawsBesides
import Derived.Lib.Hide
import Derived.Maps.OwnSet
import Derived.Maps.OwnOps
import Derived.Maps.Views
import Derived.OwnWalk
import Derived.StringKeys
import Derived.Test.YtegiffdlfpdbkaaGreatDoorFoot
namespace Go.Proofs.YtegiffdlfpdbkaaGreatDoor
open Go.RowKit Go.Maps Go.WideMaps
set_option maxRecDepth 100000
set_option linter.unusedSimpArgs false

set_option maxHeartbeats 1000000 in
theorem imgName_any (s : ByteArray) (w : World) (hs : s.size ≤ 9000000000000000000) :
    Calls Tryz.prog 88 #[.string s] w fun e w' => e = .returned (.bool (okName s)) ∧ Below w.heap.size w w' := by
  by_cases h0 : s.size = 0
  · have h : okName s = false := by unfold okName; rw [decide_eq_false (by omega), Bool.and_false]
    rw [h]
    have e0 := isEmpty_of h0
    clear h h0
    go_enter Tryz.func88, Tryz.ntmps88
    go_wp2_with fail
    go_ret
    exact ⟨rfl, (by repeat (first | (with_reducible exact grow_refl _) | (with_reducible assumption) | (with_reducible refine grow_alloc ?_ _) | (with_reducible refine grow_set ?_ (by first | exact Nat.le_refl _ | (simp; done) | (simp; omega) | omega) _) | (with_reducible refine grow_drewN ?_ _) | (with_reducible refine grow_drew ?_) | (with_reducible refine grow_step ?_ (by assumption)) | (with_reducible refine grow_base ?_ (by assumption))))⟩
  have e0 := isEmpty_no h0
  by_cases h8 : s.size ≤ 8
  · have h : okName s = lowS s := by unfold okName; rw [decide_eq_true (by omega), Bool.and_true]
    rw [h]
    clear h h0
    go_enter Tryz.func88, Tryz.ntmps88
    go_wp2_with (go_at_call 104; refine (letters_any s _ hs).mono ?_; rintro e w1 ⟨rfl, hb1⟩)
    go_ret
    exact ⟨rfl, (by repeat (first | (with_reducible exact grow_refl _) | (with_reducible assumption) | (with_reducible refine grow_alloc ?_ _) | (with_reducible refine grow_set ?_ (by first | exact Nat.le_refl _ | (simp; done) | (simp; omega) | omega) _) | (with_reducible refine grow_drewN ?_ _) | (with_reducible refine grow_drew ?_) | (with_reducible refine grow_step ?_ (by assumption)) | (with_reducible refine grow_base ?_ (by assumption))))⟩
  · have h : okName s = false := by unfold okName; rw [decide_eq_false (by omega), Bool.and_false]
    rw [h]
    clear h h0
    go_enter Tryz.func88, Tryz.ntmps88
    go_wp2_with fail
    go_ret
    exact ⟨rfl, (by repeat (first | (with_reducible exact grow_refl _) | (with_reducible assumption) | (with_reducible refine grow_alloc ?_ _) | (with_reducible refine grow_set ?_ (by first | exact Nat.le_refl _ | (simp; done) | (simp; omega) | omega) _) | (with_reducible refine grow_drewN ?_ _) | (with_reducible refine grow_drew ?_) | (with_reducible refine grow_step ?_ (by assumption)) | (with_reducible refine grow_base ?_ (by assumption))))⟩

theorem lawS : Keyed Tryz.prog 9 := string_keyed Tryz.underlying9
theorem zeroI (w : World) : (zeroValue 3).run Tryz.prog w = .ok (.int .i64 0) w := by kernel_rfl
theorem mapU : Tryz.prog.underlying 71 = some (.map 9 3) := by kernel_rfl

/-- What a map holds, said by key. -/
structure Rel (D : DataW Unit) (h : List UInt8 → Bool) (v : List UInt8 → Int) (m : Nat) : Prop where
  tidy : Tidy D
  has : ∀ s, Maps.has D (.string s) = h s
  val : ∀ s, D.atKey (.string s) (.lit (.int .i64 0)) = .lit (.int .i64 (v s))
  size : Maps.size D = m
def CountIs (base : Nat) (w : World) (g n : Nat) (h : List UInt8 → Bool) (v : List UInt8 → Int) (m : Nat) : Prop :=
  ∃ (b : Nat) (D : DataW Unit), Box w g 73 #[.map (some b)] ∧ w.ownsMap Tryz.prog 9 (plainElem Tryz.prog 3) b n D ∧ Rel D h v m ∧ base ≤ g ∧ base ≤ b
theorem owns_below {w w' : World} {b n : Nat} {D : DataW Unit} (h : w.ownsMap Tryz.prog 9 (plainElem Tryz.prog 3) b n D) (hb : Below w.heap.size w w') : w'.ownsMap Tryz.prog 9 (plainElem Tryz.prog 3) b n D := by
  have hl := h.lt
  obtain ⟨es, clock, h1, r⟩ := h
  exact ⟨es, clock, (hb.block b hl).trans h1, r⟩
theorem CountIs.below {base : Nat} {w w' : World} {g n : Nat} {h : List UInt8 → Bool} {v : List UInt8 → Int} {m : Nat} (c : CountIs base w g n h v m) (hb : Below w.heap.size w w') : CountIs base w' g n h v m := by
  obtain ⟨b, D, h1, h2, h3⟩ := c
  exact ⟨b, D, h1.below hb, owns_below h2 hb, h3⟩
theorem isKey_s (s : List UInt8) : WideAt.IsKeyLit (.string s) := by
  first | exact trivial | simp [WideAt.IsKeyLit]
theorem Rel.put {D : DataW Unit} {h : List UInt8 → Bool} {v : List UInt8 → Int} {m : Nat} (r : Rel D h v m) (s : List UInt8) (x : Int) :
    Rel (D.put (.string s) (.lit (.int .i64 x))) (fun t => t == s || h t) (fun t => if t = s then x else v t) (if h s then m else m + 1) := by
  have hk := isKey_s s
  refine ⟨r.tidy.put hk _, fun t => ?_, fun t => ?_, ?_⟩
  · by_cases e : t = s
    · subst e; rw [has_put_same r.tidy.isMap hk]; simp
    · rw [has_put_other (fun h => e (by injection h)), r.has]; simp [e]
  · by_cases e : t = s
    · subst e; rw [atKey_put_same r.tidy.isMap hk, if_pos rfl]
    · rw [atKey_put_other (fun h => e (by injection h)), r.val, if_neg e]
  · rw [size_put r.tidy, r.has, r.size]

set_option maxHeartbeats 1000000 in
theorem countNew_any (w : World) :
    Calls Tryz.prog 10 #[] w fun e w' => ∃ g : Nat, e = .returned (.pointer (some ⟨g, 0, none⟩)) ∧ CountIs w.heap.size w' g 0 (fun _ => false) (fun _ => 0) 0 ∧ Below w.heap.size w w' := by
  have hmm := @run_makeMap Tryz.prog
  go_enter Tryz.func10, Tryz.ntmps10
  go_wp2_with fail
  go_ret
  refine ⟨w.heap.size + 1, rfl, ⟨w.heap.size, .map [], ?_, owns_below (World.ownsMap_made w _ _ _) (grow_alloc (grow_refl _) _), ⟨tidy_empty, fun _ => rfl, fun _ => rfl, rfl⟩, by omega, by omega⟩, (by repeat (first | (with_reducible exact grow_refl _) | (with_reducible assumption) | (with_reducible refine grow_alloc ?_ _) | (with_reducible refine grow_set ?_ (by first | exact Nat.le_refl _ | (simp; done) | (simp; omega) | omega) _) | (with_reducible refine grow_drewN ?_ _) | (with_reducible refine grow_drew ?_) | (with_reducible refine grow_step ?_ (by assumption)) | (with_reducible refine grow_base ?_ (by assumption))))⟩
  have h := Box.new (w.alloc (.map #[] 0)) 73 #[.map (some w.heap.size)]
  have e : (w.alloc (.map #[] 0)).heap.size = w.heap.size + 1 := by simp
  rw [e] at h
  exact h

set_option maxHeartbeats 4000000 in
theorem raise_new (base g n : Nat) (h : List UInt8 → Bool) (v : List UInt8 → Int) (m : Nat) (s : ByteArray) (x : Int) (w : World) (hC : CountIs base w g n h v m) (hs : okName s = true) (x0 : 0 ≤ x) (x1 : x ≤ 1000) (hx : v s.data.toList < x) (hh : h s.data.toList = false) (hm : m < 12) (hn : n ≤ 1000000) (hbase : base ≤ w.heap.size) :
    Calls Tryz.prog 66 #[.pointer (some ⟨g, 0, none⟩), .string s, .int .i64 x] w fun e w' => e = .returned (.tuple #[.bool true, errV 0]) ∧ CountIs base w' g (n + 1) (fun t => t == s.data.toList || h t) (fun t => if t = s.data.toList then x else v t) (m + 1) ∧ Below base w w' := by
  have hsz : s.size ≤ 8 := by
    unfold okName at hs
    have := (Bool.and_eq_true_iff.1 hs).2
    have := of_decide_eq_true this
    omega
  obtain ⟨b, D, hB, hO, hR, hbg, hbb⟩ := hC
  have hP := hR.put s.data.toList x
  rw [hh] at hP
  have HP := Lib.hid hP
  have hhas : Maps.has D (.string s.data.toList) = false := by rw [hR.has, hh]
  have hsize : Maps.size D = m := hR.size
  have HV := Lib.hid (hR.val s.data.toList)
  have HB := Lib.hid hB
  have HO := Lib.hid hO
  have HS := Lib.hid hs
  have HX := Lib.hid hx
  have g12 : ((m : Int) == 12) = false := by simp; omega
  have hkey := keyOf_string_mk (P := Tryz.prog) Tryz.underlying9 (s := s) (by unfold maxLen; omega)
  have cB := hB.cell
  have lB := hB.lt
  clear hR hB hO hs hP hh hx
  go_enter Tryz.func66, Tryz.ntmps66
  go_wp2_with (at_lookup; refine wpList_lookup_own_ok_int _ rfl _ _ 71 rfl 9 3 .i64 lawS mapU Tryz.underlying3 (zeroI _) b n D rfl HO.out _ _ rfl hkey ?_; intro cc hat hwc)
  have hcc : cc < x := by
    have h1 := HV.out
    rw [hat] at h1
    injection h1 with h1
    injection h1 with _ h1
    have := HX.out
    omega
  clear hat hwc
  refine (imgName_any s _ (by omega)).mono ?_
  rintro e w1 ⟨rfl, hb1⟩
  rw [HS.out]
  have HB1 := Lib.hid (HB.out.below hb1)
  have HO1 := Lib.hid (owns_below HO.out hb1)
  have cB1 := HB1.out.cell
  have lB1 := HB1.out.lt
  have hlen := fun ty => HO1.out.len mapU ty
  simp only [hsize] at hlen
  clear cB lB
  go_wp2_with (first | (at_mapUpdate; refine wpList_mapUpdate_own _ rfl _ _ _ 71 rfl 9 3 lawS mapU _ b n D rfl HO1.out (by unfold maxLen; omega) _ _ _ rfl rfl hkey _ [] (plainElem_int Tryz.underlying3 (WalkArith.wf_i64 (by omega))) ?_; intro w2 hown2 hg2))
  go_ret2
  have B2 : Box w2 g 73 #[.map (some b)] := (hg2.block g HB1.out.lt (by
    intro e
    injection e with e
    subst e
    obtain ⟨es, clock, h1, _⟩ := HO1.out
    have h2 := HB1.out
    unfold Box at h2
    rw [h1] at h2
    cases h2)).trans HB1.out
  refine ⟨rfl, ⟨b, _, B2, hown2, HP.out, hbg, hbb⟩, (hb1.mono hbase).trans ⟨hg2.os, hg2.tape, hg2.output, hg2.size, fun k hk => hg2.block k (Nat.lt_of_lt_of_le hk (Nat.le_trans hbase hb1.size)) (by intro e; injection e with e; omega)⟩⟩

set_option maxHeartbeats 4000000 in
theorem raise_full (base g n : Nat) (h : List UInt8 → Bool) (v : List UInt8 → Int) (s : ByteArray) (x : Int) (w : World) (hC : CountIs base w g n h v 12) (hs : okName s = true) (x0 : 0 ≤ x) (x1 : x ≤ 1000) (hx : v s.data.toList < x) (hh : h s.data.toList = false) :
    Calls Tryz.prog 66 #[.pointer (some ⟨g, 0, none⟩), .string s, .int .i64 x] w fun e w' => e = .returned (.tuple #[.bool false, errV 4]) ∧ Below w.heap.size w w' := by
  have hsz : s.size ≤ 8 := by
    unfold okName at hs
    have := (Bool.and_eq_true_iff.1 hs).2
    have := of_decide_eq_true this
    omega
  obtain ⟨b, D, hB, hO, hR, _⟩ := hC
  have hhas : Maps.has D (.string s.data.toList) = false := by rw [hR.has, hh]
  have hsize : Maps.size D = 12 := hR.size
  have HV := Lib.hid (hR.val s.data.toList)
  have HB := Lib.hid hB
  have HO := Lib.hid hO
  have HS := Lib.hid hs
  have HX := Lib.hid hx
  have hkey := keyOf_string_mk (P := Tryz.prog) Tryz.underlying9 (s := s) (by unfold maxLen; omega)
  have cB := hB.cell
  have lB := hB.lt
  clear hR hB hO hs hh hx
  go_enter Tryz.func66, Tryz.ntmps66
  go_wp2_with (at_lookup; refine wpList_lookup_own_ok_int _ rfl _ _ 71 rfl 9 3 .i64 lawS mapU Tryz.underlying3 (zeroI _) b n D rfl HO.out _ _ rfl hkey ?_; intro cc hat hwc)
  have hcc : cc < x := by
    have h1 := HV.out
    rw [hat] at h1
    injection h1 with h1
    injection h1 with _ h1
    have := HX.out
    omega
  clear hat hwc
  refine (imgName_any s _ (by omega)).mono ?_
  rintro e w1 ⟨rfl, hb1⟩
  rw [HS.out]
  have HB1 := Lib.hid (HB.out.below hb1)
  have HO1 := Lib.hid (owns_below HO.out hb1)
  have cB1 := HB1.out.cell
  have lB1 := HB1.out.lt
  have hlen := fun ty => HO1.out.len mapU ty
  simp only [hsize] at hlen
  clear cB lB
  go_wp2_with fail
  go_ret2
  exact ⟨rfl, hb1⟩

end Go.Proofs.YtegiffdlfpdbkaaGreatDoor

namespace Go.Proofs.YtegiffdlfpdbkaaGreatDoor
open Go.RowKit Go.Maps Go.WideMaps
set_option maxRecDepth 100000
set_option linter.unusedSimpArgs false

set_option maxHeartbeats 4000000 in
theorem raise_old (base g n : Nat) (h : List UInt8 → Bool) (v : List UInt8 → Int) (m : Nat) (s : ByteArray) (x : Int) (w : World) (hC : CountIs base w g n h v m) (hs : okName s = true) (x0 : 0 ≤ x) (x1 : x ≤ 1000) (hx : v s.data.toList < x) (hh : h s.data.toList = true) (hn : n ≤ 1000000) (hbase : base ≤ w.heap.size) :
    Calls Tryz.prog 66 #[.pointer (some ⟨g, 0, none⟩), .string s, .int .i64 x] w fun e w' => e = .returned (.tuple #[.bool true, errV 0]) ∧ CountIs base w' g (n + 1) (fun t => t == s.data.toList || h t) (fun t => if t = s.data.toList then x else v t) m ∧ Below base w w' := by
  have hsz : s.size ≤ 8 := by
    unfold okName at hs
    have := (Bool.and_eq_true_iff.1 hs).2
    have := of_decide_eq_true this
    omega
  obtain ⟨b, D, hB, hO, hR, hbg, hbb⟩ := hC
  have hP := hR.put s.data.toList x
  rw [if_pos hh] at hP
  have HP := Lib.hid hP
  have hhas : Maps.has D (.string s.data.toList) = true := by rw [hR.has, hh]
  have hsize : Maps.size D = m := hR.size
  have HV := Lib.hid (hR.val s.data.toList)
  have HB := Lib.hid hB
  have HO := Lib.hid hO
  have HS := Lib.hid hs
  have HX := Lib.hid hx
  have hkey := keyOf_string_mk (P := Tryz.prog) Tryz.underlying9 (s := s) (by unfold maxLen; omega)
  have cB := hB.cell
  have lB := hB.lt
  clear hR hB hO hs hP hh hx
  go_enter Tryz.func66, Tryz.ntmps66
  go_wp2_with (at_lookup; refine wpList_lookup_own_ok_int _ rfl _ _ 71 rfl 9 3 .i64 lawS mapU Tryz.underlying3 (zeroI _) b n D rfl HO.out _ _ rfl hkey ?_; intro cc hat hwc)
  have hcc : cc < x := by
    have h1 := HV.out
    rw [hat] at h1
    injection h1 with h1
    injection h1 with _ h1
    have := HX.out
    omega
  clear hat hwc
  refine (imgName_any s _ (by omega)).mono ?_
  rintro e w1 ⟨rfl, hb1⟩
  rw [HS.out]
  have HB1 := Lib.hid (HB.out.below hb1)
  have HO1 := Lib.hid (owns_below HO.out hb1)
  have cB1 := HB1.out.cell
  have lB1 := HB1.out.lt
  have hlen := fun ty => HO1.out.len mapU ty
  simp only [hsize] at hlen
  clear cB lB
  go_wp2_with (first | (at_mapUpdate; refine wpList_mapUpdate_own _ rfl _ _ _ 71 rfl 9 3 lawS mapU _ b n D rfl HO1.out (by unfold maxLen; omega) _ _ _ rfl rfl hkey _ [] (plainElem_int Tryz.underlying3 (WalkArith.wf_i64 (by omega))) ?_; intro w2 hown2 hg2))
  go_ret2
  have B2 : Box w2 g 73 #[.map (some b)] := (hg2.block g HB1.out.lt (by
    intro e
    injection e with e
    subst e
    obtain ⟨es, clock, h1, _⟩ := HO1.out
    have h2 := HB1.out
    unfold Box at h2
    rw [h1] at h2
    cases h2)).trans HB1.out
  refine ⟨rfl, ⟨b, _, B2, hown2, HP.out, hbg, hbb⟩, (hb1.mono hbase).trans ⟨hg2.os, hg2.tape, hg2.output, hg2.size, fun k hk => hg2.block k (Nat.lt_of_lt_of_le hk (Nat.le_trans hbase hb1.size)) (by intro e; injection e with e; omega)⟩⟩

set_option maxHeartbeats 4000000 in
theorem raise_low (base g n : Nat) (h : List UInt8 → Bool) (v : List UInt8 → Int) (m : Nat) (s : ByteArray) (x : Int) (w : World) (hC : CountIs base w g n h v m) (hs : okName s = true) (x0 : 0 ≤ x) (x1 : x ≤ 1000) (hx : x ≤ v s.data.toList) :
    Calls Tryz.prog 66 #[.pointer (some ⟨g, 0, none⟩), .string s, .int .i64 x] w fun e w' => e = .returned (.tuple #[.bool false, errV 0]) ∧ Below w.heap.size w w' := by
  have hsz : s.size ≤ 8 := by
    unfold okName at hs
    have := (Bool.and_eq_true_iff.1 hs).2
    have := of_decide_eq_true this
    omega
  obtain ⟨b, D, hB, hO, hR, _⟩ := hC
  have hsize : Maps.size D = m := hR.size
  have HV := Lib.hid (hR.val s.data.toList)
  have HB := Lib.hid hB
  have HO := Lib.hid hO
  have HS := Lib.hid hs
  have HX := Lib.hid hx
  have hkey := keyOf_string_mk (P := Tryz.prog) Tryz.underlying9 (s := s) (by unfold maxLen; omega)
  have cB := hB.cell
  have lB := hB.lt
  clear hR hB hO hs hx
  go_enter Tryz.func66, Tryz.ntmps66
  go_wp2_with (at_lookup; refine wpList_lookup_own_ok_int _ rfl _ _ 71 rfl 9 3 .i64 lawS mapU Tryz.underlying3 (zeroI _) b n D rfl HO.out _ _ rfl hkey ?_; intro cc hat hwc)
  have hcc : x ≤ cc := by
    have h1 := HV.out
    rw [hat] at h1
    injection h1 with h1
    injection h1 with _ h1
    have := HX.out
    omega
  clear hat hwc
  refine (imgName_any s _ (by omega)).mono ?_
  rintro e w1 ⟨rfl, hb1⟩
  rw [HS.out]
  have HB1 := Lib.hid (HB.out.below hb1)
  have HO1 := Lib.hid (owns_below HO.out hb1)
  have cB1 := HB1.out.cell
  have lB1 := HB1.out.lt
  have hlen := fun ty => HO1.out.len mapU ty
  simp only [hsize] at hlen
  clear cB lB
  go_wp2_with fail
  go_ret2
  exact ⟨rfl, hb1⟩

set_option maxHeartbeats 4000000 in
theorem raise_far (base g n : Nat) (h : List UInt8 → Bool) (v : List UInt8 → Int) (m : Nat) (s : ByteArray) (x : Int) (w : World) (hC : CountIs base w g n h v m) (hs : okName s = true) (hx : x < 0 ∨ 1000 < x) :
    Calls Tryz.prog 66 #[.pointer (some ⟨g, 0, none⟩), .string s, .int .i64 x] w fun e w' => e = .returned (.tuple #[.bool false, errV 1]) ∧ Below w.heap.size w w' := by
  have hsz : s.size ≤ 8 := by
    unfold okName at hs
    have := (Bool.and_eq_true_iff.1 hs).2
    have := of_decide_eq_true this
    omega
  obtain ⟨b, D, hB, hO, hR, _⟩ := hC
  have hsize : Maps.size D = m := hR.size
  have HV := Lib.hid (hR.val s.data.toList)
  have HB := Lib.hid hB
  have HO := Lib.hid hO
  have HS := Lib.hid hs
  have HX := Lib.hid hx
  have hkey := keyOf_string_mk (P := Tryz.prog) Tryz.underlying9 (s := s) (by unfold maxLen; omega)
  have cB := hB.cell
  have lB := hB.lt
  clear hR hB hO hs hx
  rcases HX.out with hx | hx
  all_goals clear HX
  · go_enter Tryz.func66, Tryz.ntmps66
    go_wp2_with (at_lookup; refine wpList_lookup_own_ok_int _ rfl _ _ 71 rfl 9 3 .i64 lawS mapU Tryz.underlying3 (zeroI _) b n D rfl HO.out _ _ rfl hkey ?_; intro cc hat hwc)
    clear hat hwc
    refine (imgName_any s _ (by omega)).mono ?_
    rintro e w1 ⟨rfl, hb1⟩
    rw [HS.out]
    have HB1 := Lib.hid (HB.out.below hb1)
    have HO1 := Lib.hid (owns_below HO.out hb1)
    have cB1 := HB1.out.cell
    have lB1 := HB1.out.lt
    have hlen := fun ty => HO1.out.len mapU ty
    simp only [hsize] at hlen
    clear cB lB
    go_wp2_with fail
    go_ret2
    exact ⟨rfl, hb1⟩
  · have hx2 : ¬ (x < 0) := by omega
    go_enter Tryz.func66, Tryz.ntmps66
    go_wp2_with (at_lookup; refine wpList_lookup_own_ok_int _ rfl _ _ 71 rfl 9 3 .i64 lawS mapU Tryz.underlying3 (zeroI _) b n D rfl HO.out _ _ rfl hkey ?_; intro cc hat hwc)
    clear hat hwc
    refine (imgName_any s _ (by omega)).mono ?_
    rintro e w1 ⟨rfl, hb1⟩
    rw [HS.out]
    have HB1 := Lib.hid (HB.out.below hb1)
    have HO1 := Lib.hid (owns_below HO.out hb1)
    have cB1 := HB1.out.cell
    have lB1 := HB1.out.lt
    have hlen := fun ty => HO1.out.len mapU ty
    simp only [hsize] at hlen
    clear cB lB
    go_wp2_with fail
    go_ret2
    exact ⟨rfl, hb1⟩

theorem atkey_val {D : DataW Unit} {k : Lit} {d : DataW Unit} {a c : Int} (h1 : D.atKey k d = .lit (.int .i64 a)) (h2 : D.atKey k d = .lit (.int .i64 c)) : a = c := by
  rw [h1] at h2
  injection h2 with h2
  injection h2 with _ h2
def mayK (c x : Int) : Int := if x < 1 ∨ 1000 < x then 1 else if x < c then 9 else 0
set_option maxHeartbeats 4000000 in
theorem may_any (base g n : Nat) (h : List UInt8 → Bool) (v : List UInt8 → Int) (m : Nat) (s : ByteArray) (x : Int) (w : World) (hC : CountIs base w g n h v m) (hs : okName s = true) :
    Calls Tryz.prog 67 #[.pointer (some ⟨g, 0, none⟩), .string s, .int .i64 x] w fun e w' => e = .returned (errV (mayK (v s.data.toList) x)) ∧ Below w.heap.size w w' := by
  have hsz : s.size ≤ 8 := by
    unfold okName at hs
    have := (Bool.and_eq_true_iff.1 hs).2
    have := of_decide_eq_true this
    omega
  obtain ⟨b, D, hB, hO, hR, _⟩ := hC
  have HV := Lib.hid (hR.val s.data.toList)
  have HB := Lib.hid hB
  have HO := Lib.hid hO
  have HS := Lib.hid hs
  have hkey := keyOf_string_mk (P := Tryz.prog) Tryz.underlying9 (s := s) (by unfold maxLen; omega)
  clear hR hB hO hs
  by_cases c1 : x < 1
  · have HM := Lib.hid (show mayK (v s.data.toList) x = 1 by unfold mayK; rw [if_pos (Or.inl c1)])
    go_enter Tryz.func67, Tryz.ntmps67
    go_wp2_with fail
    refine (imgName_any s _ (by omega)).mono ?_
    rintro e w1 ⟨rfl, hb1⟩
    rw [HS.out]
    go_wp2_with fail
    go_ret
    exact ⟨by rw [HM.out]; rfl, hb1⟩
  by_cases c2 : x > 1000
  · have HM := Lib.hid (show mayK (v s.data.toList) x = 1 by unfold mayK; rw [if_pos (Or.inr (by omega))])
    go_enter Tryz.func67, Tryz.ntmps67
    go_wp2_with fail
    refine (imgName_any s _ (by omega)).mono ?_
    rintro e w1 ⟨rfl, hb1⟩
    rw [HS.out]
    go_wp2_with fail
    go_ret
    exact ⟨by rw [HM.out]; rfl, hb1⟩
  have hne : ¬ (x < 1 ∨ 1000 < x) := by omega
  by_cases c3 : x < v s.data.toList
  · have HM := Lib.hid (show mayK (v s.data.toList) x = 9 by unfold mayK; rw [if_neg hne, if_pos c3])
    have HX := Lib.hid c3
    clear c3 hne
    go_enter Tryz.func67, Tryz.ntmps67
    go_wp2_with fail
    refine (imgName_any s _ (by omega)).mono ?_
    rintro e w1 ⟨rfl, hb1⟩
    rw [HS.out]
    have B1 := HB.out.below hb1
    have O1 := owns_below HO.out hb1
    have cB := B1.cell
    have lB := B1.lt
    go_wp2_with (at_lookup; refine wpList_lookup_own_int _ rfl _ _ 71 rfl 9 3 .i64 lawS mapU Tryz.underlying3 (zeroI _) b n D rfl O1 _ _ rfl hkey ?_; intro cc hat hwc; (have hcc : x < cc := by have h0 := atkey_val hat HV.out; have h9 := HX.out; omega); clear hat)
    go_ret
    exact ⟨by rw [HM.out]; rfl, hb1⟩
  · have HM := Lib.hid (show mayK (v s.data.toList) x = 0 by unfold mayK; rw [if_neg hne, if_neg c3])
    have HX := Lib.hid c3
    clear c3 hne
    go_enter Tryz.func67, Tryz.ntmps67
    go_wp2_with fail
    refine (imgName_any s _ (by omega)).mono ?_
    rintro e w1 ⟨rfl, hb1⟩
    rw [HS.out]
    have B1 := HB.out.below hb1
    have O1 := owns_below HO.out hb1
    have cB := B1.cell
    have lB := B1.lt
    go_wp2_with (at_lookup; refine wpList_lookup_own_int _ rfl _ _ 71 rfl 9 3 .i64 lawS mapU Tryz.underlying3 (zeroI _) b n D rfl O1 _ _ rfl hkey ?_; intro cc hat hwc; (have hcc : ¬ (x < cc) := by have h0 := atkey_val hat HV.out; have h9 := HX.out; omega); clear hat)
    go_ret
    exact ⟨by rw [HM.out]; rfl, hb1⟩

end Go.Proofs.YtegiffdlfpdbkaaGreatDoor

namespace Go.Proofs.YtegiffdlfpdbkaaGreatDoor
open Go.RowKit Go.Maps Go.WideMaps
set_option maxRecDepth 100000
set_option linter.unusedSimpArgs false

def CountE (w : World) (b n : Nat) (h : List UInt8 → Bool) (v : List UInt8 → Int) (m : Nat) : Prop :=
  ∃ (D : DataW Unit), Box w (b + 1) 73 #[.map (some b)] ∧ w.ownsMap Tryz.prog 9 (plainElem Tryz.prog 3) b n D ∧ Rel D h v m
theorem CountE.is {w : World} {b n : Nat} {h : List UInt8 → Bool} {v : List UInt8 → Int} {m : Nat} (c : CountE w b n h v m) : CountIs b w (b + 1) n h v m := by
  obtain ⟨D, h1, h2, h3⟩ := c
  exact ⟨b, D, h1, h2, h3, by omega, by omega⟩
theorem CountE.but {S : Nat → Prop} {w w' : World} {b n : Nat} {h : List UInt8 → Bool} {v : List UInt8 → Int} {m : Nat} (c : CountE w b n h v m) (hb : But S w w') (s0 : ¬ S b) (s1 : ¬ S (b + 1)) : CountE w' b n h v m := by
  obtain ⟨D, h1, h2, h3⟩ := c
  have hl := h2.lt
  obtain ⟨es, clock, e1, r⟩ := h2
  exact ⟨D, h1.but hb s1, ⟨es, clock, (hb.block b hl s0).trans e1, r⟩, h3⟩
theorem CountE.below {w w' : World} {b n : Nat} {h : List UInt8 → Bool} {v : List UInt8 → Int} {m : Nat} (c : CountE w b n h v m) (hb : Below w.heap.size w w') : CountE w' b n h v m :=
  c.but (below_but hb (fun _ => False)) (fun h => h) (fun h => h)

set_option maxHeartbeats 1000000 in
theorem countNewE_any (w : World) :
    Calls Tryz.prog 10 #[] w fun e w' => e = .returned (.pointer (some ⟨w.heap.size + 1, 0, none⟩)) ∧ CountE w' w.heap.size 0 (fun _ => false) (fun _ => 0) 0 ∧ Below w.heap.size w w' := by
  have hmm := @run_makeMap Tryz.prog
  go_enter Tryz.func10, Tryz.ntmps10
  go_wp2_with fail
  go_ret
  refine ⟨rfl, ⟨.map [], ?_, owns_below (World.ownsMap_made w _ _ _) (grow_alloc (grow_refl _) _), ⟨tidy_empty, fun _ => rfl, fun _ => rfl, rfl⟩⟩, (by repeat (first | (with_reducible exact grow_refl _) | (with_reducible assumption) | (with_reducible refine grow_alloc ?_ _) | (with_reducible refine grow_set ?_ (by first | exact Nat.le_refl _ | (simp; done) | (simp; omega) | omega) _) | (with_reducible refine grow_drewN ?_ _) | (with_reducible refine grow_drew ?_) | (with_reducible refine grow_step ?_ (by assumption)) | (with_reducible refine grow_base ?_ (by assumption))))⟩
  have h := Box.new (w.alloc (.map #[] 0)) 73 #[.map (some w.heap.size)]
  have e : (w.alloc (.map #[] 0)).heap.size = w.heap.size + 1 := by simp
  rw [e] at h
  exact h

set_option maxHeartbeats 4000000 in
theorem raiseE_new (b n : Nat) (h : List UInt8 → Bool) (v : List UInt8 → Int) (m : Nat) (s : ByteArray) (x : Int) (w : World) (hC : CountE w b n h v m) (hs : okName s = true) (x0 : 0 ≤ x) (x1 : x ≤ 1000) (hx : v s.data.toList < x) (hh : h s.data.toList = false) (hm : m < 12) (hn : n ≤ 1000000) :
    Calls Tryz.prog 66 #[.pointer (some ⟨b + 1, 0, none⟩), .string s, .int .i64 x] w fun e w' => e = .returned (.tuple #[.bool true, errV 0]) ∧ CountE w' b (n + 1) (fun t => t == s.data.toList || h t) (fun t => if t = s.data.toList then x else v t) (m + 1) ∧ But (fun k => k = b) w w' := by
  have hsz : s.size ≤ 8 := by
    unfold okName at hs
    have := (Bool.and_eq_true_iff.1 hs).2
    have := of_decide_eq_true this
    omega
  obtain ⟨D, hB, hO, hR⟩ := hC
  have hP := hR.put s.data.toList x
  rw [hh] at hP
  have HP := Lib.hid hP
  have hhas : Maps.has D (.string s.data.toList) = false := by rw [hR.has, hh]
  have hsize : Maps.size D = m := hR.size
  have HV := Lib.hid (hR.val s.data.toList)
  have HB := Lib.hid hB
  have HO := Lib.hid hO
  have HS := Lib.hid hs
  have HX := Lib.hid hx
  have g12 : ((m : Int) == 12) = false := by simp; omega
  have hkey := keyOf_string_mk (P := Tryz.prog) Tryz.underlying9 (s := s) (by unfold maxLen; omega)
  have cB := hB.cell
  have lB := hB.lt
  clear hR hB hO hs hP hh hx
  go_enter Tryz.func66, Tryz.ntmps66
  go_wp2_with (at_lookup; refine wpList_lookup_own_ok_int _ rfl _ _ 71 rfl 9 3 .i64 lawS mapU Tryz.underlying3 (zeroI _) b n D rfl HO.out _ _ rfl hkey ?_; intro cc hat hwc)
  have hcc : cc < x := by
    have h1 := HV.out
    rw [hat] at h1
    injection h1 with h1
    injection h1 with _ h1
    have := HX.out
    omega
  clear hat hwc
  refine (imgName_any s _ (by omega)).mono ?_
  rintro e w1 ⟨rfl, hb1⟩
  rw [HS.out]
  have HB1 := Lib.hid (HB.out.below hb1)
  have HO1 := Lib.hid (owns_below HO.out hb1)
  have cB1 := HB1.out.cell
  have lB1 := HB1.out.lt
  have hlen := fun ty => HO1.out.len mapU ty
  simp only [hsize] at hlen
  clear cB lB
  go_wp2_with (first | (at_mapUpdate; refine wpList_mapUpdate_own _ rfl _ _ _ 71 rfl 9 3 lawS mapU _ b n D rfl HO1.out (by unfold maxLen; omega) _ _ _ rfl rfl hkey _ [] (plainElem_int Tryz.underlying3 (WalkArith.wf_i64 (by omega))) ?_; intro w2 hown2 hg2))
  go_ret2
  have B2 : Box w2 (b + 1) 73 #[.map (some b)] := (hg2.block (b + 1) HB1.out.lt (by
    intro e
    injection e with e
    omega)).trans HB1.out
  exact ⟨rfl, ⟨_, B2, hown2, HP.out⟩, ⟨hg2.os.trans hb1.os, hg2.tape.trans hb1.tape, hg2.output.trans hb1.output, Nat.le_trans hb1.size hg2.size, fun k hk hn => (hg2.block k (Nat.lt_of_lt_of_le hk hb1.size) (by intro e; injection e with e; exact hn e)).trans (hb1.block k hk)⟩⟩

set_option maxHeartbeats 4000000 in
theorem raiseE_old (b n : Nat) (h : List UInt8 → Bool) (v : List UInt8 → Int) (m : Nat) (s : ByteArray) (x : Int) (w : World) (hC : CountE w b n h v m) (hs : okName s = true) (x0 : 0 ≤ x) (x1 : x ≤ 1000) (hx : v s.data.toList < x) (hh : h s.data.toList = true) (hn : n ≤ 1000000) :
    Calls Tryz.prog 66 #[.pointer (some ⟨b + 1, 0, none⟩), .string s, .int .i64 x] w fun e w' => e = .returned (.tuple #[.bool true, errV 0]) ∧ CountE w' b (n + 1) (fun t => t == s.data.toList || h t) (fun t => if t = s.data.toList then x else v t) m ∧ But (fun k => k = b) w w' := by
  have hsz : s.size ≤ 8 := by
    unfold okName at hs
    have := (Bool.and_eq_true_iff.1 hs).2
    have := of_decide_eq_true this
    omega
  obtain ⟨D, hB, hO, hR⟩ := hC
  have hP := hR.put s.data.toList x
  rw [if_pos hh] at hP
  have HP := Lib.hid hP
  have hhas : Maps.has D (.string s.data.toList) = true := by rw [hR.has, hh]
  have hsize : Maps.size D = m := hR.size
  have HV := Lib.hid (hR.val s.data.toList)
  have HB := Lib.hid hB
  have HO := Lib.hid hO
  have HS := Lib.hid hs
  have HX := Lib.hid hx
  have hkey := keyOf_string_mk (P := Tryz.prog) Tryz.underlying9 (s := s) (by unfold maxLen; omega)
  have cB := hB.cell
  have lB := hB.lt
  clear hR hB hO hs hP hh hx
  go_enter Tryz.func66, Tryz.ntmps66
  go_wp2_with (at_lookup; refine wpList_lookup_own_ok_int _ rfl _ _ 71 rfl 9 3 .i64 lawS mapU Tryz.underlying3 (zeroI _) b n D rfl HO.out _ _ rfl hkey ?_; intro cc hat hwc)
  have hcc : cc < x := by
    have h1 := HV.out
    rw [hat] at h1
    injection h1 with h1
    injection h1 with _ h1
    have := HX.out
    omega
  clear hat hwc
  refine (imgName_any s _ (by omega)).mono ?_
  rintro e w1 ⟨rfl, hb1⟩
  rw [HS.out]
  have HB1 := Lib.hid (HB.out.below hb1)
  have HO1 := Lib.hid (owns_below HO.out hb1)
  have cB1 := HB1.out.cell
  have lB1 := HB1.out.lt
  have hlen := fun ty => HO1.out.len mapU ty
  simp only [hsize] at hlen
  clear cB lB
  go_wp2_with (first | (at_mapUpdate; refine wpList_mapUpdate_own _ rfl _ _ _ 71 rfl 9 3 lawS mapU _ b n D rfl HO1.out (by unfold maxLen; omega) _ _ _ rfl rfl hkey _ [] (plainElem_int Tryz.underlying3 (WalkArith.wf_i64 (by omega))) ?_; intro w2 hown2 hg2))
  go_ret2
  have B2 : Box w2 (b + 1) 73 #[.map (some b)] := (hg2.block (b + 1) HB1.out.lt (by
    intro e
    injection e with e
    omega)).trans HB1.out
  exact ⟨rfl, ⟨_, B2, hown2, HP.out⟩, ⟨hg2.os.trans hb1.os, hg2.tape.trans hb1.tape, hg2.output.trans hb1.output, Nat.le_trans hb1.size hg2.size, fun k hk hn => (hg2.block k (Nat.lt_of_lt_of_le hk hb1.size) (by intro e; injection e with e; exact hn e)).trans (hb1.block k hk)⟩⟩

/-- What one name's least version is. -/
def OneIs (w : World) (b : Nat) (s : ByteArray) (cur : Int) (k : Nat) : Prop :=
  ∃ (n : Nat) (h : List UInt8 → Bool) (v : List UInt8 → Int) (m : Nat), CountE w b n h v m ∧ n ≤ k ∧ v s.data.toList = cur ∧ 0 ≤ cur ∧ (h s.data.toList = false → m < 12)
theorem OneIs.but {S : Nat → Prop} {w w' : World} {b : Nat} {s : ByteArray} {cur : Int} {k : Nat} (c : OneIs w b s cur k) (hb : But S w w') (s0 : ¬ S b) (s1 : ¬ S (b + 1)) : OneIs w' b s cur k := by
  obtain ⟨n, h, v, m, h1, r⟩ := c
  exact ⟨n, h, v, m, h1.but hb s0 s1, r⟩
theorem OneIs.below {w w' : World} {b : Nat} {s : ByteArray} {cur : Int} {k : Nat} (c : OneIs w b s cur k) (hb : Below w.heap.size w w') : OneIs w' b s cur k :=
  c.but (below_but hb (fun _ => False)) (fun h => h) (fun h => h)
theorem OneIs.zero {w : World} {b : Nat} (s : ByteArray) (c : CountE w b 0 (fun _ => false) (fun _ => 0) 0) : OneIs w b s 0 0 :=
  ⟨_, _, _, _, c, Nat.le_refl _, rfl, Int.le_refl _, fun _ => by omega⟩
def okV (x : Int) : Bool := decide (0 ≤ x ∧ x ≤ 1000)
def gOf (x : Int) : Int := if okV x then x else 0
def okE (x : Int) : Int := if okV x then 0 else 1
theorem raise_one (b : Nat) (s : ByteArray) (cur x : Int) (k : Nat) (w : World) (hC : OneIs w b s cur k) (hs : okName s = true) (hk : k ≤ 1000000) :
    Calls Tryz.prog 66 #[.pointer (some ⟨b + 1, 0, none⟩), .string s, .int .i64 x] w fun e w' => e = .returned (.tuple #[.bool (decide (cur < gOf x)), errV (okE x)]) ∧ OneIs w' b s (max cur (gOf x)) (k + 1) ∧ But (fun k => k = b) w w' := by
  obtain ⟨n, h, v, m, h1, hn, hv, h0, hm⟩ := hC
  by_cases hx : okV x = true
  · have g1 : gOf x = x := by unfold gOf; rw [if_pos hx]
    have g2 : okE x = 0 := by unfold okE; rw [if_pos hx]
    have hx' : 0 ≤ x ∧ x ≤ 1000 := of_decide_eq_true hx
    rw [g1, g2]
    by_cases hc : cur < x
    · rw [decide_eq_true hc]
      have hmax : max cur x = x := by omega
      rw [hmax]
      cases hh : h s.data.toList
      · refine (raiseE_new b n h v m s x w h1 hs hx'.1 hx'.2 (by rw [hv]; exact hc) hh (hm hh) (by omega)).mono ?_
        rintro e w' ⟨rfl, h2, h3⟩
        exact ⟨rfl, ⟨_, _, _, _, h2, by omega, by simp, by omega, fun h => by simp at h⟩, h3⟩
      · refine (raiseE_old b n h v m s x w h1 hs hx'.1 hx'.2 (by rw [hv]; exact hc) hh (by omega)).mono ?_
        rintro e w' ⟨rfl, h2, h3⟩
        exact ⟨rfl, ⟨_, _, _, _, h2, by omega, by simp, by omega, fun h => by simp at h⟩, h3⟩
    · rw [decide_eq_false hc]
      have hmax : max cur x = cur := by omega
      rw [hmax]
      refine (raise_low b (b + 1) n h v m s x w h1.is hs hx'.1 hx'.2 (by rw [hv]; omega)).mono ?_
      rintro e w' ⟨rfl, h2⟩
      exact ⟨rfl, ⟨n, h, v, m, h1.below h2, by omega, hv, h0, hm⟩, below_but h2 _⟩
  · have hx2 : okV x = false := by simpa using hx
    have g1 : gOf x = 0 := by unfold gOf; rw [if_neg hx]
    have g2 : okE x = 1 := by unfold okE; rw [if_neg hx]
    have hx' : ¬ (0 ≤ x ∧ x ≤ 1000) := of_decide_eq_false hx2
    have hc : ¬ (cur < 0) := by omega
    have hmax : max cur 0 = cur := by omega
    rw [g1, g2, decide_eq_false hc, hmax]
    refine (raise_far b (b + 1) n h v m s x w h1.is hs (by omega)).mono ?_
    rintro e w' ⟨rfl, h2⟩
    exact ⟨rfl, ⟨n, h, v, m, h1.below h2, by omega, hv, h0, hm⟩, below_but h2 _⟩
theorem may_one (b : Nat) (s : ByteArray) (cur x : Int) (k : Nat) (w : World) (hC : OneIs w b s cur k) (hs : okName s = true) :
    Calls Tryz.prog 67 #[.pointer (some ⟨b + 1, 0, none⟩), .string s, .int .i64 x] w fun e w' => e = .returned (errV (mayK cur x)) ∧ Below w.heap.size w w' := by
  obtain ⟨n, h, v, m, h1, hn, hv, _⟩ := hC
  have := may_any b (b + 1) n h v m s x w h1.is hs
  rw [hv] at this
  exact this

end Go.Proofs.YtegiffdlfpdbkaaGreatDoor

namespace Go.Proofs.YtegiffdlfpdbkaaGreatDoor
open Go.RowKit Go.Maps Go.WideMaps
set_option maxRecDepth 100000
set_option linter.unusedSimpArgs false

set_option maxHeartbeats 4000000 in
theorem raise_bad (base g n : Nat) (h : List UInt8 → Bool) (v : List UInt8 → Int) (m : Nat) (s : ByteArray) (x : Int) (w : World) (hC : CountIs base w g n h v m) (hs : okName s = false) (hz : s.size ≤ 140737488351232) :
    Calls Tryz.prog 66 #[.pointer (some ⟨g, 0, none⟩), .string s, .int .i64 x] w fun e w' => e = .returned (.tuple #[.bool false, errV 3]) ∧ Below w.heap.size w w' := by
  obtain ⟨b, D, hB, hO, hR, _⟩ := hC
  have HO := Lib.hid hO
  have HS := Lib.hid hs
  have hkey := keyOf_string_mk (P := Tryz.prog) Tryz.underlying9 (s := s) (by unfold maxLen; omega)
  have cB := hB.cell
  have lB := hB.lt
  clear hR hB hO hs
  go_enter Tryz.func66, Tryz.ntmps66
  go_wp2_with (at_lookup; refine wpList_lookup_own_ok_int _ rfl _ _ 71 rfl 9 3 .i64 lawS mapU Tryz.underlying3 (zeroI _) b n D rfl HO.out _ _ rfl hkey ?_; intro cc hat hwc)
  clear hat hwc
  refine (imgName_any s _ (by omega)).mono ?_
  rintro e w1 ⟨rfl, hb1⟩
  rw [HS.out]
  go_wp2_with fail
  go_ret2
  exact ⟨rfl, hb1⟩

set_option maxHeartbeats 4000000 in
theorem may_bad (c : Value) (s : ByteArray) (x : Int) (w : World) (hs : okName s = false) (hz : s.size ≤ 140737488351232) :
    Calls Tryz.prog 67 #[c, .string s, .int .i64 x] w fun e w' => e = .returned (errV 3) ∧ Below w.heap.size w w' := by
  have HS := Lib.hid hs
  clear hs
  go_enter Tryz.func67, Tryz.ntmps67
  go_wp2_with fail
  refine (imgName_any s _ (by omega)).mono ?_
  rintro e w1 ⟨rfl, hb1⟩
  rw [HS.out]
  go_wp2_with fail
  go_ret
  exact ⟨rfl, hb1⟩

end Go.Proofs.YtegiffdlfpdbkaaGreatDoor
