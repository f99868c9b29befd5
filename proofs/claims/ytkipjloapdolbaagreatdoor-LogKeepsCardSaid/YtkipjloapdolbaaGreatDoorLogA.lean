/- log: New, step where nothing stops it, Raise of one name. -/
import Derived.Test.YtkipjloapdolbaaGreatDoorRows
import Derived.Test.YtkipjloapdolbaaGreatDoorNum
import Derived.Test.YtkipjloapdolbaaGreatDoorBase
import Derived.Test.YtkipjloapdolbaaGreatDoorFoot
import Derived.Test.YtkipjloapdolbaaGreatDoorImg
import Derived.Test.YtkipjloapdolbaaGreatDoorImg2
import Derived.Test.YtkipjloapdolbaaGreatDoorCount
import Derived.Test.YtkipjloapdolbaaGreatDoorLiftT
import Derived.WalkKit
import Derived.WalkSpells
import Derived.WalkLawsBesides
import Derived.Lib.Hide
import Derived.Deep.RegionHeld3
namespace Go.Proofs.YtkipjloapdolbaaGreatDoor
open Go.RowKit
set_option maxRecDepth 100000
set_option linter.unusedVariables false
set_option linter.unusedSimpArgs false

/-- A log at g: its counts at c. -/
abbrev LogBox (w : World) (g c : Nat) (bs : ByteArray) (many safe left : Int) (st : Bool) : Prop := Box w g 61 #[.pointer (some ⟨c, 0, none⟩), .string bs, .int .i64 many, .int .i64 safe, .int .i64 left, .bool st]

set_option maxHeartbeats 1000000 in
theorem logNew_any (w : World) :
    Calls Tryz.prog 5 #[] w fun e w' => ∃ b g, e = .returned (.pointer (some ⟨g, 0, none⟩)) ∧ CountE w' b 0 (fun _ => false) (fun _ => 0) 0 ∧ LogBox w' g (b + 1) ⟨#[]⟩ 0 0 (-1) false ∧ w.heap.size ≤ b ∧ b + 1 < w'.heap.size ∧ w.heap.size ≤ g ∧ g ≠ b ∧ g ≠ b + 1 ∧ Below w.heap.size w w' := by
  go_enter Tryz.func5, Tryz.ntmps5
  go_wp2_with fail
  refine (countNewE_any _).mono ?_
  rintro e w1 ⟨rfl, hC, hb1⟩
  have HC := Lib.hid hC
  have hlt : w.heap.size + 1 < w1.heap.size := by obtain ⟨D, h1, _⟩ := hC; exact h1.lt
  clear hC
  go_wp2_with fail
  go_ret
  exact ⟨w.heap.size, w1.heap.size, rfl, HC.out.below (grow_alloc (grow_refl _) _), Box.new _ _ _, Nat.le_refl _, by simp; omega, hb1.size, by omega, by omega, grow_alloc hb1 _⟩

set_option maxHeartbeats 1000000 in
theorem logStep_on (w : World) (g c : Nat) (bs : ByteArray) (many safe : Int) (hB : LogBox w g c bs many safe (-1) false) :
    Calls Tryz.prog 25 #[.pointer (some ⟨g, 0, none⟩)] w fun e w' => e = .returned (.bool false) ∧ LogBox w' g c bs many safe (-1) false ∧ But (fun k => k = g) w w' := by
  have cB := hB.cell
  have lB := hB.lt
  have f5 := hB.frozen 5
  have f4 := hB.frozen 4
  have HB := Lib.hid hB
  clear hB
  go_enter Tryz.func25, Tryz.ntmps25
  go_wp2_with fail
  go_ret
  refine ⟨rfl, ?_, ((But.refl (fun k => k = g) w).setCell (p := ⟨g, 5, none⟩) (Or.inl rfl) _).setCell (p := ⟨g, 4, none⟩) (Or.inl rfl) _⟩
  have h := (HB.out.set_ 5 (.bool false)).set_ 4 (.int .i64 (-min 1 2))
  exact h

/-- A name whose count changes nothing: no byte. -/
theorem logRaise_no (w : World) (g b : Nat) (bs : ByteArray) (many safe : Int) (s : ByteArray) (v cur : Int) (n : Nat) (hB : LogBox w g (b + 1) bs many safe (-1) false) (hC : OneIs w b s cur n) (hs : okName s = true) (hn : n ≤ 1000000) (h : ¬ cur < gOf v) (h0 : 0 ≤ cur) (hg : g ≠ b) :
    Calls Tryz.prog 6 #[.pointer (some ⟨g, 0, none⟩), .string s, .int .i64 v] w fun e w' => e = .returned (.tuple #[.bool false, errV (okE v)]) ∧ OneIs w' b s cur (n + 1) ∧ LogBox w' g (b + 1) bs many safe (-1) false ∧ But (fun k => k = b) w w' := by
  have en := fun k w => err_neq k w
  have gn := fun o k w => err_guard_neq o k w
  have HR := Lib.hid (raise_one b s cur v n w hC hs hn)
  rw [decide_eq_false h, show max cur (gOf v) = cur by omega] at HR
  have cB := hB.cell
  have lB := hB.lt
  have HB := Lib.hid hB
  clear hB hC h
  rcases (show okE v = 0 ∨ okE v = 1 by unfold okE; split <;> simp) with hE | hE
  all_goals
    rw [hE] at HR ⊢
    go_enter Tryz.func6, Tryz.ntmps6
    go_wp2_with fail
    refine HR.out.mono ?_
    rintro e w1 ⟨rfl, hO, hk⟩
    have HO := Lib.hid hO
    have hb := HB.out.but hk hg
    have HB2 := Lib.hid hb
    clear hO hb
    go_wp2_with fail
    go_ret2
    exact ⟨rfl, HO.out, HB2.out, hk⟩

/-- A text that is no name. -/
theorem logRaise_bad (w : World) (g b : Nat) (bs : ByteArray) (many safe : Int) (s : ByteArray) (v cur : Int) (n m : Nat) (h : List UInt8 → Bool) (vv : List UInt8 → Int) (hB : LogBox w g (b + 1) bs many safe (-1) false) (hC : CountE w b n h vv m) (hs : okName s = false) (hz : s.size ≤ 140737488351232) :
    Calls Tryz.prog 6 #[.pointer (some ⟨g, 0, none⟩), .string s, .int .i64 v] w fun e w' => e = .returned (.tuple #[.bool false, errV 3]) ∧ Below w.heap.size w w' := by
  have en := fun k w => err_neq k w
  have gn := fun o k w => err_guard_neq o k w
  have HR := Lib.hid (raise_bad b (b + 1) n h vv m s v w hC.is hs hz)
  have cB := hB.cell
  have lB := hB.lt
  clear hB hC
  go_enter Tryz.func6, Tryz.ntmps6
  go_wp2_with fail
  refine HR.out.mono ?_
  rintro e w1 ⟨rfl, hb⟩
  go_wp2_with fail
  go_ret2
  exact ⟨rfl, hb⟩

theorem okName_len {s : ByteArray} (h : okName s = true) : s.size ≤ 1000 := by
  unfold okName at h
  simp only [Bool.and_eq_true, decide_eq_true_eq] at h
  omega
theorem LogBox.rec_ {w : World} {g c : Nat} {bs : ByteArray} {many safe left : Int} {st : Bool} (h : LogBox w g c bs many safe left st) (X : ByteArray) (m : Int) : LogBox ((w.setCell ⟨g, 1, none⟩ (.string X)).setCell ⟨g, 2, none⟩ (.int .i64 m)) g c X m safe left st := (Box.set_ h 1 (.string X)).set_ 2 (.int .i64 m)
def recS (s : ByteArray) (v : Int) : ByteArray := ((s ++ { data := #[32] }) ++ itoaS v) ++ { data := #[10] }
theorem recS_size (s : ByteArray) (v : Int) : (recS s v).size = s.size + 1 + (itoaS v).size + 1 := by
  unfold recS
  simp only [ByteArray.size_append]
  rfl
set_option maxHeartbeats 600000 in
/-- The first record. -/
theorem logRaise_first (w : World) (g b : Nat) (s : ByteArray) (v : Int) (n : Nat) (hB : LogBox w g (b + 1) ⟨#[]⟩ 0 0 (-1) false) (hC : OneIs w b s 0 n) (hs : okName s = true) (hn : n ≤ 1000000) (h0 : 0 < v) (h1 : v ≤ 1000) (hg : g ≠ b) (hg2 : g ≠ b + 1) (ht : TabT w) (htb : ∀ w', But (fun k => k = b) w w' → TabT w') :
    Calls Tryz.prog 6 #[.pointer (some ⟨g, 0, none⟩), .string s, .int .i64 v] w fun e w' => e = .returned (.tuple #[.bool true, errV 0]) ∧ OneIs w' b s v (n + 1) ∧ LogBox w' g (b + 1) ({ data := #[] } ++ recS s v) 1 0 (-1) false ∧ But (fun k => k = b ∨ k = g) w w' := by
  have en := fun k w => err_neq k w
  have gn := fun o k w => err_guard_neq o k w
  have hok : okV v = true := decide_eq_true (by omega)
  have hgo : gOf v = v := by unfold gOf; rw [if_pos hok]
  have hoe : okE v = 0 := by unfold okE; rw [if_pos hok]
  have HR := Lib.hid (raise_one b s 0 v n w hC hs hn)
  rw [hgo, hoe, decide_eq_true h0, show max 0 v = v by omega] at HR
  have cB := hB.cell
  have lB := hB.lt
  have HB := Lib.hid hB
  have HT := Lib.hid htb
  have hn8 : s.size ≤ 1000 := okName_len hs
  have hv := itoa_len (v := v) (by omega) h1
  have e1 : ({ data := #[32] } : ByteArray).size = 1 := rfl
  have e2 : ({ data := #[10] } : ByteArray).size = 1 := rfl
  have f1 : ∀ w, (Op.stringOp .add s { data := #[32] }).run Tryz.prog w = .ok (.string (s ++ { data := #[32] })) w := fun w => run_string_add_sum _ _ _ (by omega)
  have f2 : ∀ w, (Op.stringOp .add (s ++ { data := #[32] }) (itoaS v)).run Tryz.prog w = .ok (.string ((s ++ { data := #[32] }) ++ itoaS v)) w := fun w => run_string_add_sum _ _ _ (by rw [ByteArray.size_append]; omega)
  have f3 : ∀ w, (Op.stringOp .add ((s ++ { data := #[32] }) ++ itoaS v) { data := #[10] }).run Tryz.prog w = .ok (.string (recS s v)) w := fun w => run_string_add_sum _ _ _ (by rw [ByteArray.size_append, ByteArray.size_append]; omega)
  have hrs : (recS s v).size ≤ 2000 := by rw [recS_size]; omega
  have f4 : ∀ w, (Op.stringOp .add { data := #[] } (recS s v)).run Tryz.prog w = .ok (.string ({ data := #[] } ++ recS s v)) w := fun w => run_string_add_sum _ _ _ (by have : ({ data := #[] } : ByteArray).size = 0 := rfl; omega)
  obtain ⟨X, hX⟩ : ∃ X, ({ data := #[] } : ByteArray) ++ recS s v = X := ⟨_, rfl⟩
  rw [hX] at f4 ⊢
  obtain ⟨R, hR⟩ : ∃ R, recS s v = R := ⟨_, rfl⟩
  rw [hR] at f3 f4
  clear hB hC hok hgo hoe ht htb e1 e2 hv hn8 hrs hX hR
  go_enter Tryz.func6, Tryz.ntmps6
  go_wp2_with fail
  refine HR.out.mono ?_
  rintro e w1 ⟨rfl, hO, hk⟩
  have HO := Lib.hid hO
  have hb := HB.out.but hk hg
  have HB2 := Lib.hid hb
  have HT1 := Lib.hid (HT.out _ hk)
  have cB := hb.cell
  have lB := hb.lt
  clear hO hb HT
  go_wp2_with fail
  refine (itoa_any v _ (by omega) h1 HT1.out).mono ?_
  rintro e w2 ⟨rfl, hb2⟩
  have HO2 := Lib.hid (HO.out.below hb2)
  have HB3 := Lib.hid (HB2.out.below hb2)
  have hk2 : But (fun k => k = b) w w2 := hk.trans (below_but hb2 (fun k => k = b)) (fun _ _ h => h)
  clear hk hb2 HO HB2 cB lB HT1
  go_wp2_with fail
  refine (logStep_on _ g (b + 1) { data := #[] } 0 0 HB3.out).mono ?_
  rintro e w3 ⟨rfl, hB3, hk3⟩
  have hb4 := hB3
  have HB4 := Lib.hid hB3
  have cB := hB3.cell
  have lB := hB3.lt
  have fB := hB3.frozen
  clear hB3 HB3
  go_wp2_with fail
  have hkk : But (fun k => k = g) w2 ((w3.setCell ⟨g, 1, none⟩ (.string X)).setCell ⟨g, 2, none⟩ (.int .i64 1)) := (hk3.setCell (p := ⟨g, 1, none⟩) (Or.inl rfl) _).setCell (p := ⟨g, 2, none⟩) (Or.inl rfl) _
  have HF := Lib.hid (HO2.out.but hkk (fun h => hg h.symm) (fun h => hg2 h.symm))
  have HG := Lib.hid (LogBox.rec_ HB4.out X 1)
  have HK := Lib.hid ((hk2.mono (S' := fun k => k = b ∨ k = g) (fun _ _ h => Or.inl h)).trans hkk (fun _ _ h => Or.inr h))
  clear hkk hk2 hk3 hb4
  go_ret2
  exact ⟨rfl, HF.out, HG.out, HK.out⟩

set_option maxHeartbeats 400000 in
theorem logBytes_any (w : World) (g c : Nat) (bs : ByteArray) (many safe left : Int) (st : Bool) (hB : LogBox w g c bs many safe left st) :
    Calls Tryz.prog 10 #[.pointer (some ⟨g, 0, none⟩)] w fun e w' => e = .returned (.int .i64 bs.size) ∧ w = w' := by
  have cB := hB.cell
  have lB := hB.lt
  clear hB
  go_enter Tryz.func10, Tryz.ntmps10
  go_wp2_with fail
  go_ret
  exact ⟨rfl, rfl⟩

end Go.Proofs.YtkipjloapdolbaaGreatDoor
