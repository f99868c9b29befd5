/- count: the other ways of Raise, Least, May. -/
import Derived.Test.YtflhbnaocognlaaGreatDoorCount
import Derived.WalkKit
import Derived.WalkSpells
import Derived.WalkLawsBesides
import Derived.Lib.Hide
import Derived.Maps.OwnSet
import Derived.Maps.OwnOps
import Derived.Maps.Views
import Derived.OwnWalk
import Derived.StringKeys
namespace Go.Proofs.YtflhbnaocognlaaGreatDoor
open Go.RowKit Go.Maps Go.WideMaps
set_option maxRecDepth 100000
set_option linter.unusedSimpArgs false

set_option maxHeartbeats 4000000 in
theorem raise_old (base g n : Nat) (h : List UInt8 → Bool) (v : List UInt8 → Int) (m : Nat) (s : ByteArray) (x : Int) (w : World) (hC : CountIs base w g n h v m) (hs : okName s = true) (x0 : 0 ≤ x) (x1 : x ≤ 1000) (hx : v s.data.toList < x) (hh : h s.data.toList = true) (hn : n ≤ 1000000) (hbase : base ≤ w.heap.size) :
    Calls Tryz.prog 5 #[.pointer (some ⟨g, 0, none⟩), .string s, .int .i64 x] w fun e w' => e = .returned (.tuple #[.bool true, errV 0]) ∧ CountIs base w' g (n + 1) (fun t => t == s.data.toList || h t) (fun t => if t = s.data.toList then x else v t) m ∧ Below base w w' := by
  have hsz : s.size ≤ 8 := by
    unfold okName at hs
    have := (Bool.and_eq_true_iff.1 hs).2
    have := of_decide_eq_true this
    omega
  obtain ⟨b, D, hB, hO, hR, hbg, hbb⟩ := hC
  have hP := hR.put s.data.toList x
  rw [if_pos hh] at hP
  have HP := Lib.hid hP
  have hhas : Maps.has D (.string s.data.toList) = true := by rw [hR.has, hh]
  have hsize : Maps.size D = m := hR.size
  have HV := Lib.hid (hR.val s.data.toList)
  have HB := Lib.hid hB
  have HO := Lib.hid hO
  have HS := Lib.hid hs
  have HX := Lib.hid hx
  have hkey := keyOf_string_mk (P := Tryz.prog) Tryz.underlying9 (s := s) (by unfold maxLen; omega)
  have cB := hB.cell
  have lB := hB.lt
  clear hR hB hO hs hP hh hx
  go_enter Tryz.func5, Tryz.ntmps5
  go_wp2_with (at_lookup; refine wpList_lookup_own_ok_int _ rfl _ _ 66 rfl 9 3 .i64 lawS mapU Tryz.underlying3 (zeroI _) b n D rfl HO.out _ _ rfl hkey ?_; intro cc hat hwc)
  have hcc : cc < x := by
    have h1 := HV.out
    rw [hat] at h1
    injection h1 with h1
    injection h1 with _ h1
    have := HX.out
    omega
  clear hat hwc
  refine (imgName_any s _ (by omega)).mono ?_
  rintro e w1 ⟨rfl, hb1⟩
  rw [HS.out]
  have HB1 := Lib.hid (HB.out.below hb1)
  have HO1 := Lib.hid (owns_below HO.out hb1)
  have cB1 := HB1.out.cell
  have lB1 := HB1.out.lt
  have hlen := fun ty => HO1.out.len mapU ty
  simp only [hsize] at hlen
  clear cB lB
  go_wp2_with (first | (at_mapUpdate; refine wpList_mapUpdate_own _ rfl _ _ _ 66 rfl 9 3 lawS mapU _ b n D rfl HO1.out (by unfold maxLen; omega) _ _ _ rfl rfl hkey _ [] (plainElem_int Tryz.underlying3 (WalkArith.wf_i64 (by omega))) ?_; intro w2 hown2 hg2))
  go_ret2
  have B2 : Box w2 g 68 #[.map (some b)] := (hg2.block g HB1.out.lt (by
    intro e
    injection e with e
    subst e
    obtain ⟨es, clock, h1, _⟩ := HO1.out
    have h2 := HB1.out
    unfold Box at h2
    rw [h1] at h2
    cases h2)).trans HB1.out
  refine ⟨rfl, ⟨b, _, B2, hown2, HP.out, hbg, hbb⟩, (hb1.mono hbase).trans ⟨hg2.os, hg2.tape, hg2.output, hg2.size, fun k hk => hg2.block k (Nat.lt_of_lt_of_le hk (Nat.le_trans hbase hb1.size)) (by intro e; injection e with e; omega)⟩⟩

set_option maxHeartbeats 4000000 in
theorem raise_low (base g n : Nat) (h : List UInt8 → Bool) (v : List UInt8 → Int) (m : Nat) (s : ByteArray) (x : Int) (w : World) (hC : CountIs base w g n h v m) (hs : okName s = true) (x0 : 0 ≤ x) (x1 : x ≤ 1000) (hx : x ≤ v s.data.toList) :
    Calls Tryz.prog 5 #[.pointer (some ⟨g, 0, none⟩), .string s, .int .i64 x] w fun e w' => e = .returned (.tuple #[.bool false, errV 0]) ∧ Below w.heap.size w w' := by
  have hsz : s.size ≤ 8 := by
    unfold okName at hs
    have := (Bool.and_eq_true_iff.1 hs).2
    have := of_decide_eq_true this
    omega
  obtain ⟨b, D, hB, hO, hR, _⟩ := hC
  have hsize : Maps.size D = m := hR.size
  have HV := Lib.hid (hR.val s.data.toList)
  have HB := Lib.hid hB
  have HO := Lib.hid hO
  have HS := Lib.hid hs
  have HX := Lib.hid hx
  have hkey := keyOf_string_mk (P := Tryz.prog) Tryz.underlying9 (s := s) (by unfold maxLen; omega)
  have cB := hB.cell
  have lB := hB.lt
  clear hR hB hO hs hx
  go_enter Tryz.func5, Tryz.ntmps5
  go_wp2_with (at_lookup; refine wpList_lookup_own_ok_int _ rfl _ _ 66 rfl 9 3 .i64 lawS mapU Tryz.underlying3 (zeroI _) b n D rfl HO.out _ _ rfl hkey ?_; intro cc hat hwc)
  have hcc : x ≤ cc := by
    have h1 := HV.out
    rw [hat] at h1
    injection h1 with h1
    injection h1 with _ h1
    have := HX.out
    omega
  clear hat hwc
  refine (imgName_any s _ (by omega)).mono ?_
  rintro e w1 ⟨rfl, hb1⟩
  rw [HS.out]
  have HB1 := Lib.hid (HB.out.below hb1)
  have HO1 := Lib.hid (owns_below HO.out hb1)
  have cB1 := HB1.out.cell
  have lB1 := HB1.out.lt
  have hlen := fun ty => HO1.out.len mapU ty
  simp only [hsize] at hlen
  clear cB lB
  go_wp2_with fail
  go_ret2
  exact ⟨rfl, hb1⟩

set_option maxHeartbeats 4000000 in
theorem raise_far (base g n : Nat) (h : List UInt8 → Bool) (v : List UInt8 → Int) (m : Nat) (s : ByteArray) (x : Int) (w : World) (hC : CountIs base w g n h v m) (hs : okName s = true) (hx : x < 0 ∨ 1000 < x) :
    Calls Tryz.prog 5 #[.pointer (some ⟨g, 0, none⟩), .string s, .int .i64 x] w fun e w' => e = .returned (.tuple #[.bool false, errV 1]) ∧ Below w.heap.size w w' := by
  have hsz : s.size ≤ 8 := by
    unfold okName at hs
    have := (Bool.and_eq_true_iff.1 hs).2
    have := of_decide_eq_true this
    omega
  obtain ⟨b, D, hB, hO, hR, _⟩ := hC
  have hsize : Maps.size D = m := hR.size
  have HV := Lib.hid (hR.val s.data.toList)
  have HB := Lib.hid hB
  have HO := Lib.hid hO
  have HS := Lib.hid hs
  have HX := Lib.hid hx
  have hkey := keyOf_string_mk (P := Tryz.prog) Tryz.underlying9 (s := s) (by unfold maxLen; omega)
  have cB := hB.cell
  have lB := hB.lt
  clear hR hB hO hs hx
  rcases HX.out with hx | hx
  all_goals clear HX
  · go_enter Tryz.func5, Tryz.ntmps5
    go_wp2_with (at_lookup; refine wpList_lookup_own_ok_int _ rfl _ _ 66 rfl 9 3 .i64 lawS mapU Tryz.underlying3 (zeroI _) b n D rfl HO.out _ _ rfl hkey ?_; intro cc hat hwc)
    clear hat hwc
    refine (imgName_any s _ (by omega)).mono ?_
    rintro e w1 ⟨rfl, hb1⟩
    rw [HS.out]
    have HB1 := Lib.hid (HB.out.below hb1)
    have HO1 := Lib.hid (owns_below HO.out hb1)
    have cB1 := HB1.out.cell
    have lB1 := HB1.out.lt
    have hlen := fun ty => HO1.out.len mapU ty
    simp only [hsize] at hlen
    clear cB lB
    go_wp2_with fail
    go_ret2
    exact ⟨rfl, hb1⟩
  · have hx2 : ¬ (x < 0) := by omega
    go_enter Tryz.func5, Tryz.ntmps5
    go_wp2_with (at_lookup; refine wpList_lookup_own_ok_int _ rfl _ _ 66 rfl 9 3 .i64 lawS mapU Tryz.underlying3 (zeroI _) b n D rfl HO.out _ _ rfl hkey ?_; intro cc hat hwc)
    clear hat hwc
    refine (imgName_any s _ (by omega)).mono ?_
    rintro e w1 ⟨rfl, hb1⟩
    rw [HS.out]
    have HB1 := Lib.hid (HB.out.below hb1)
    have HO1 := Lib.hid (owns_below HO.out hb1)
    have cB1 := HB1.out.cell
    have lB1 := HB1.out.lt
    have hlen := fun ty => HO1.out.len mapU ty
    simp only [hsize] at hlen
    clear cB lB
    go_wp2_with fail
    go_ret2
    exact ⟨rfl, hb1⟩

theorem atkey_val {D : DataW Unit} {k : Lit} {d : DataW Unit} {a c : Int} (h1 : D.atKey k d = .lit (.int .i64 a)) (h2 : D.atKey k d = .lit (.int .i64 c)) : a = c := by
  rw [h1] at h2
  injection h2 with h2
  injection h2 with _ h2
def mayK (c x : Int) : Int := if x < 1 ∨ 1000 < x then 1 else if x < c then 9 else 0
set_option maxHeartbeats 4000000 in
theorem may_any (base g n : Nat) (h : List UInt8 → Bool) (v : List UInt8 → Int) (m : Nat) (s : ByteArray) (x : Int) (w : World) (hC : CountIs base w g n h v m) (hs : okName s = true) :
    Calls Tryz.prog 28 #[.pointer (some ⟨g, 0, none⟩), .string s, .int .i64 x] w fun e w' => e = .returned (errV (mayK (v s.data.toList) x)) ∧ Below w.heap.size w w' := by
  have hsz : s.size ≤ 8 := by
    unfold okName at hs
    have := (Bool.and_eq_true_iff.1 hs).2
    have := of_decide_eq_true this
    omega
  obtain ⟨b, D, hB, hO, hR, _⟩ := hC
  have HV := Lib.hid (hR.val s.data.toList)
  have HB := Lib.hid hB
  have HO := Lib.hid hO
  have HS := Lib.hid hs
  have hkey := keyOf_string_mk (P := Tryz.prog) Tryz.underlying9 (s := s) (by unfold maxLen; omega)
  clear hR hB hO hs
  by_cases c1 : x < 1
  · have HM := Lib.hid (show mayK (v s.data.toList) x = 1 by unfold mayK; rw [if_pos (Or.inl c1)])
    go_enter Tryz.func28, Tryz.ntmps28
    go_wp2_with fail
    refine (imgName_any s _ (by omega)).mono ?_
    rintro e w1 ⟨rfl, hb1⟩
    rw [HS.out]
    go_wp2_with fail
    go_ret
    exact ⟨by rw [HM.out]; rfl, hb1⟩
  by_cases c2 : x > 1000
  · have HM := Lib.hid (show mayK (v s.data.toList) x = 1 by unfold mayK; rw [if_pos (Or.inr (by omega))])
    go_enter Tryz.func28, Tryz.ntmps28
    go_wp2_with fail
    refine (imgName_any s _ (by omega)).mono ?_
    rintro e w1 ⟨rfl, hb1⟩
    rw [HS.out]
    go_wp2_with fail
    go_ret
    exact ⟨by rw [HM.out]; rfl, hb1⟩
  have hne : ¬ (x < 1 ∨ 1000 < x) := by omega
  by_cases c3 : x < v s.data.toList
  · have HM := Lib.hid (show mayK (v s.data.toList) x = 9 by unfold mayK; rw [if_neg hne, if_pos c3])
    have HX := Lib.hid c3
    clear c3 hne
    go_enter Tryz.func28, Tryz.ntmps28
    go_wp2_with fail
    refine (imgName_any s _ (by omega)).mono ?_
    rintro e w1 ⟨rfl, hb1⟩
    rw [HS.out]
    have B1 := HB.out.below hb1
    have O1 := owns_below HO.out hb1
    have cB := B1.cell
    have lB := B1.lt
    go_wp2_with (at_lookup; refine wpList_lookup_own_int _ rfl _ _ 66 rfl 9 3 .i64 lawS mapU Tryz.underlying3 (zeroI _) b n D rfl O1 _ _ rfl hkey ?_; intro cc hat hwc; (have hcc : x < cc := by have h0 := atkey_val hat HV.out; have h9 := HX.out; omega); clear hat)
    go_ret
    exact ⟨by rw [HM.out]; rfl, hb1⟩
  · have HM := Lib.hid (show mayK (v s.data.toList) x = 0 by unfold mayK; rw [if_neg hne, if_neg c3])
    have HX := Lib.hid c3
    clear c3 hne
    go_enter Tryz.func28, Tryz.ntmps28
    go_wp2_with fail
    refine (imgName_any s _ (by omega)).mono ?_
    rintro e w1 ⟨rfl, hb1⟩
    rw [HS.out]
    have B1 := HB.out.below hb1
    have O1 := owns_below HO.out hb1
    have cB := B1.cell
    have lB := B1.lt
    go_wp2_with (at_lookup; refine wpList_lookup_own_int _ rfl _ _ 66 rfl 9 3 .i64 lawS mapU Tryz.underlying3 (zeroI _) b n D rfl O1 _ _ rfl hkey ?_; intro cc hat hwc; (have hcc : ¬ (x < cc) := by have h0 := atkey_val hat HV.out; have h9 := HX.out; omega); clear hat)
    go_ret
    exact ⟨by rw [HM.out]; rfl, hb1⟩

end Go.Proofs.YtflhbnaocognlaaGreatDoor
