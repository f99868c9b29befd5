/- count: the least versions of names, in a map behind a pointer. -/
import Derived.Test.YtflhbnaocognlaaGreatDoorRows
import Derived.Test.YtflhbnaocognlaaGreatDoorNum
import Derived.Test.YtflhbnaocognlaaGreatDoorBase
import Derived.Test.YtflhbnaocognlaaGreatDoorMeas
import Derived.Test.YtflhbnaocognlaaGreatDoorImg
import Derived.WalkKit
import Derived.WalkSpells
import Derived.WalkLawsBesides
import Derived.Lib.Hide
import Derived.Maps.OwnSet
import Derived.Maps.OwnOps
import Derived.Maps.Views
import Derived.OwnWalk
import Derived.StringKeys
namespace Go.Proofs.YtflhbnaocognlaaGreatDoor
open Go.RowKit Go.Maps Go.WideMaps
set_option maxRecDepth 100000
set_option linter.unusedSimpArgs false

set_option maxHeartbeats 1000000 in
theorem imgName_any (s : ByteArray) (w : World) (hs : s.size ≤ 9000000000000000000) :
    Calls Tryz.prog 20 #[.string s] w fun e w' => e = .returned (.bool (okName s)) ∧ Below w.heap.size w w' := by
  by_cases h0 : s.size = 0
  · have h : okName s = false := by unfold okName; rw [decide_eq_false (by omega), Bool.and_false]
    rw [h]
    have e0 := isEmpty_of h0
    clear h h0
    go_enter Tryz.func20, Tryz.ntmps20
    go_wp2_with fail
    go_ret
    exact ⟨rfl, (by repeat (first | (with_reducible exact grow_refl _) | (with_reducible assumption) | (with_reducible refine grow_alloc ?_ _) | (with_reducible refine grow_set ?_ (by first | exact Nat.le_refl _ | (simp; done) | (simp; omega) | omega) _) | (with_reducible refine grow_drewN ?_ _) | (with_reducible refine grow_drew ?_) | (with_reducible refine grow_step ?_ (by assumption)) | (with_reducible refine grow_base ?_ (by assumption))))⟩
  have e0 := isEmpty_no h0
  by_cases h8 : s.size ≤ 8
  · have h : okName s = lowS s := by unfold okName; rw [decide_eq_true (by omega), Bool.and_true]
    rw [h]
    clear h h0
    go_enter Tryz.func20, Tryz.ntmps20
    go_wp2_with (go_at_call 23; refine (letters_any s _ hs).mono ?_; rintro e w1 ⟨rfl, hb1⟩)
    go_ret
    exact ⟨rfl, (by repeat (first | (with_reducible exact grow_refl _) | (with_reducible assumption) | (with_reducible refine grow_alloc ?_ _) | (with_reducible refine grow_set ?_ (by first | exact Nat.le_refl _ | (simp; done) | (simp; omega) | omega) _) | (with_reducible refine grow_drewN ?_ _) | (with_reducible refine grow_drew ?_) | (with_reducible refine grow_step ?_ (by assumption)) | (with_reducible refine grow_base ?_ (by assumption))))⟩
  · have h : okName s = false := by unfold okName; rw [decide_eq_false (by omega), Bool.and_false]
    rw [h]
    clear h h0
    go_enter Tryz.func20, Tryz.ntmps20
    go_wp2_with fail
    go_ret
    exact ⟨rfl, (by repeat (first | (with_reducible exact grow_refl _) | (with_reducible assumption) | (with_reducible refine grow_alloc ?_ _) | (with_reducible refine grow_set ?_ (by first | exact Nat.le_refl _ | (simp; done) | (simp; omega) | omega) _) | (with_reducible refine grow_drewN ?_ _) | (with_reducible refine grow_drew ?_) | (with_reducible refine grow_step ?_ (by assumption)) | (with_reducible refine grow_base ?_ (by assumption))))⟩

theorem lawS : Keyed Tryz.prog 9 := string_keyed Tryz.underlying9
theorem zeroI (w : World) : (zeroValue 3).run Tryz.prog w = .ok (.int .i64 0) w := by kernel_rfl
theorem mapU : Tryz.prog.underlying 66 = some (.map 9 3) := by kernel_rfl

/-- What a map holds, said by key. -/
structure Rel (D : DataW Unit) (h : List UInt8 → Bool) (v : List UInt8 → Int) (m : Nat) : Prop where
  tidy : Tidy D
  has : ∀ s, Maps.has D (.string s) = h s
  val : ∀ s, D.atKey (.string s) (.lit (.int .i64 0)) = .lit (.int .i64 (v s))
  size : Maps.size D = m
def CountIs (base : Nat) (w : World) (g n : Nat) (h : List UInt8 → Bool) (v : List UInt8 → Int) (m : Nat) : Prop :=
  ∃ (b : Nat) (D : DataW Unit), Box w g 68 #[.map (some b)] ∧ w.ownsMap Tryz.prog 9 (plainElem Tryz.prog 3) b n D ∧ Rel D h v m ∧ base ≤ g ∧ base ≤ b
theorem owns_below {w w' : World} {b n : Nat} {D : DataW Unit} (h : w.ownsMap Tryz.prog 9 (plainElem Tryz.prog 3) b n D) (hb : Below w.heap.size w w') : w'.ownsMap Tryz.prog 9 (plainElem Tryz.prog 3) b n D := by
  have hl := h.lt
  obtain ⟨es, clock, h1, r⟩ := h
  exact ⟨es, clock, (hb.block b hl).trans h1, r⟩
theorem CountIs.below {base : Nat} {w w' : World} {g n : Nat} {h : List UInt8 → Bool} {v : List UInt8 → Int} {m : Nat} (c : CountIs base w g n h v m) (hb : Below w.heap.size w w') : CountIs base w' g n h v m := by
  obtain ⟨b, D, h1, h2, h3⟩ := c
  exact ⟨b, D, h1.below hb, owns_below h2 hb, h3⟩
theorem isKey_s (s : List UInt8) : WideAt.IsKeyLit (.string s) := by
  first | exact trivial | simp [WideAt.IsKeyLit]
theorem Rel.put {D : DataW Unit} {h : List UInt8 → Bool} {v : List UInt8 → Int} {m : Nat} (r : Rel D h v m) (s : List UInt8) (x : Int) :
    Rel (D.put (.string s) (.lit (.int .i64 x))) (fun t => t == s || h t) (fun t => if t = s then x else v t) (if h s then m else m + 1) := by
  have hk := isKey_s s
  refine ⟨r.tidy.put hk _, fun t => ?_, fun t => ?_, ?_⟩
  · by_cases e : t = s
    · subst e; rw [has_put_same r.tidy.isMap hk]; simp
    · rw [has_put_other (fun h => e (by injection h)), r.has]; simp [e]
  · by_cases e : t = s
    · subst e; rw [atKey_put_same r.tidy.isMap hk, if_pos rfl]
    · rw [atKey_put_other (fun h => e (by injection h)), r.val, if_neg e]
  · rw [size_put r.tidy, r.has, r.size]

set_option maxHeartbeats 1000000 in
theorem countNew_any (w : World) :
    Calls Tryz.prog 4 #[] w fun e w' => ∃ g : Nat, e = .returned (.pointer (some ⟨g, 0, none⟩)) ∧ CountIs w.heap.size w' g 0 (fun _ => false) (fun _ => 0) 0 ∧ Below w.heap.size w w' := by
  have hmm := @run_makeMap Tryz.prog
  go_enter Tryz.func4, Tryz.ntmps4
  go_wp2_with fail
  go_ret
  refine ⟨w.heap.size + 1, rfl, ⟨w.heap.size, .map [], ?_, owns_below (World.ownsMap_made w _ _ _) (grow_alloc (grow_refl _) _), ⟨tidy_empty, fun _ => rfl, fun _ => rfl, rfl⟩, by omega, by omega⟩, (by repeat (first | (with_reducible exact grow_refl _) | (with_reducible assumption) | (with_reducible refine grow_alloc ?_ _) | (with_reducible refine grow_set ?_ (by first | exact Nat.le_refl _ | (simp; done) | (simp; omega) | omega) _) | (with_reducible refine grow_drewN ?_ _) | (with_reducible refine grow_drew ?_) | (with_reducible refine grow_step ?_ (by assumption)) | (with_reducible refine grow_base ?_ (by assumption))))⟩
  have h := Box.new (w.alloc (.map #[] 0)) 68 #[.map (some w.heap.size)]
  have e : (w.alloc (.map #[] 0)).heap.size = w.heap.size + 1 := by simp
  rw [e] at h
  exact h

set_option maxHeartbeats 4000000 in
theorem raise_new (base g n : Nat) (h : List UInt8 → Bool) (v : List UInt8 → Int) (m : Nat) (s : ByteArray) (x : Int) (w : World) (hC : CountIs base w g n h v m) (hs : okName s = true) (x0 : 0 ≤ x) (x1 : x ≤ 1000) (hx : v s.data.toList < x) (hh : h s.data.toList = false) (hm : m < 12) (hn : n ≤ 1000000) (hbase : base ≤ w.heap.size) :
    Calls Tryz.prog 5 #[.pointer (some ⟨g, 0, none⟩), .string s, .int .i64 x] w fun e w' => e = .returned (.tuple #[.bool true, errV 0]) ∧ CountIs base w' g (n + 1) (fun t => t == s.data.toList || h t) (fun t => if t = s.data.toList then x else v t) (m + 1) ∧ Below base w w' := by
  have hsz : s.size ≤ 8 := by
    unfold okName at hs
    have := (Bool.and_eq_true_iff.1 hs).2
    have := of_decide_eq_true this
    omega
  obtain ⟨b, D, hB, hO, hR, hbg, hbb⟩ := hC
  have hP := hR.put s.data.toList x
  rw [hh] at hP
  have HP := Lib.hid hP
  have hhas : Maps.has D (.string s.data.toList) = false := by rw [hR.has, hh]
  have hsize : Maps.size D = m := hR.size
  have HV := Lib.hid (hR.val s.data.toList)
  have HB := Lib.hid hB
  have HO := Lib.hid hO
  have HS := Lib.hid hs
  have HX := Lib.hid hx
  have g12 : ((m : Int) == 12) = false := by simp; omega
  have hkey := keyOf_string_mk (P := Tryz.prog) Tryz.underlying9 (s := s) (by unfold maxLen; omega)
  have cB := hB.cell
  have lB := hB.lt
  clear hR hB hO hs hP hh hx
  go_enter Tryz.func5, Tryz.ntmps5
  go_wp2_with (at_lookup; refine wpList_lookup_own_ok_int _ rfl _ _ 66 rfl 9 3 .i64 lawS mapU Tryz.underlying3 (zeroI _) b n D rfl HO.out _ _ rfl hkey ?_; intro cc hat hwc)
  have hcc : cc < x := by
    have h1 := HV.out
    rw [hat] at h1
    injection h1 with h1
    injection h1 with _ h1
    have := HX.out
    omega
  clear hat hwc
  refine (imgName_any s _ (by omega)).mono ?_
  rintro e w1 ⟨rfl, hb1⟩
  rw [HS.out]
  have HB1 := Lib.hid (HB.out.below hb1)
  have HO1 := Lib.hid (owns_below HO.out hb1)
  have cB1 := HB1.out.cell
  have lB1 := HB1.out.lt
  have hlen := fun ty => HO1.out.len mapU ty
  simp only [hsize] at hlen
  clear cB lB
  go_wp2_with (first | (at_mapUpdate; refine wpList_mapUpdate_own _ rfl _ _ _ 66 rfl 9 3 lawS mapU _ b n D rfl HO1.out (by unfold maxLen; omega) _ _ _ rfl rfl hkey _ [] (plainElem_int Tryz.underlying3 (WalkArith.wf_i64 (by omega))) ?_; intro w2 hown2 hg2))
  go_ret2
  have B2 : Box w2 g 68 #[.map (some b)] := (hg2.block g HB1.out.lt (by
    intro e
    injection e with e
    subst e
    obtain ⟨es, clock, h1, _⟩ := HO1.out
    have h2 := HB1.out
    unfold Box at h2
    rw [h1] at h2
    cases h2)).trans HB1.out
  refine ⟨rfl, ⟨b, _, B2, hown2, HP.out, hbg, hbb⟩, (hb1.mono hbase).trans ⟨hg2.os, hg2.tape, hg2.output, hg2.size, fun k hk => hg2.block k (Nat.lt_of_lt_of_le hk (Nat.le_trans hbase hb1.size)) (by intro e; injection e with e; omega)⟩⟩

set_option maxHeartbeats 4000000 in
theorem raise_full (base g n : Nat) (h : List UInt8 → Bool) (v : List UInt8 → Int) (s : ByteArray) (x : Int) (w : World) (hC : CountIs base w g n h v 12) (hs : okName s = true) (x0 : 0 ≤ x) (x1 : x ≤ 1000) (hx : v s.data.toList < x) (hh : h s.data.toList = false) :
    Calls Tryz.prog 5 #[.pointer (some ⟨g, 0, none⟩), .string s, .int .i64 x] w fun e w' => e = .returned (.tuple #[.bool false, errV 4]) ∧ Below w.heap.size w w' := by
  have hsz : s.size ≤ 8 := by
    unfold okName at hs
    have := (Bool.and_eq_true_iff.1 hs).2
    have := of_decide_eq_true this
    omega
  obtain ⟨b, D, hB, hO, hR, _⟩ := hC
  have hhas : Maps.has D (.string s.data.toList) = false := by rw [hR.has, hh]
  have hsize : Maps.size D = 12 := hR.size
  have HV := Lib.hid (hR.val s.data.toList)
  have HB := Lib.hid hB
  have HO := Lib.hid hO
  have HS := Lib.hid hs
  have HX := Lib.hid hx
  have hkey := keyOf_string_mk (P := Tryz.prog) Tryz.underlying9 (s := s) (by unfold maxLen; omega)
  have cB := hB.cell
  have lB := hB.lt
  clear hR hB hO hs hh hx
  go_enter Tryz.func5, Tryz.ntmps5
  go_wp2_with (at_lookup; refine wpList_lookup_own_ok_int _ rfl _ _ 66 rfl 9 3 .i64 lawS mapU Tryz.underlying3 (zeroI _) b n D rfl HO.out _ _ rfl hkey ?_; intro cc hat hwc)
  have hcc : cc < x := by
    have h1 := HV.out
    rw [hat] at h1
    injection h1 with h1
    injection h1 with _ h1
    have := HX.out
    omega
  clear hat hwc
  refine (imgName_any s _ (by omega)).mono ?_
  rintro e w1 ⟨rfl, hb1⟩
  rw [HS.out]
  have HB1 := Lib.hid (HB.out.below hb1)
  have HO1 := Lib.hid (owns_below HO.out hb1)
  have cB1 := HB1.out.cell
  have lB1 := HB1.out.lt
  have hlen := fun ty => HO1.out.len mapU ty
  simp only [hsize] at hlen
  clear cB lB
  go_wp2_with fail
  go_ret2
  exact ⟨rfl, hb1⟩

end Go.Proofs.YtflhbnaocognlaaGreatDoor
