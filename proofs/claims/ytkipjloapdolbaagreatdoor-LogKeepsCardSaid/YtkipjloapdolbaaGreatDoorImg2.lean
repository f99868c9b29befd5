/- image: Line, Is, Measure. -/
import Derived.Test.YtkipjloapdolbaaGreatDoorRows
import Derived.Test.YtkipjloapdolbaaGreatDoorNum
import Derived.Test.YtkipjloapdolbaaGreatDoorBase
import Derived.Test.YtkipjloapdolbaaGreatDoorMeas
import Derived.Test.YtkipjloapdolbaaGreatDoorBank
import Derived.Test.YtkipjloapdolbaaGreatDoorImg
import Derived.Test.YtkipjloapdolbaaGreatDoorLiftT
import Derived.Test.YtkipjloapdolbaaGreatDoorShelf
import Derived.WalkKit
import Derived.WalkSpells
import Derived.WalkLawsBesides
import Derived.Lib.Hide
import Derived.Deep.RegionHeld3
namespace Go.Proofs.YtkipjloapdolbaaGreatDoor
open Go.RowKit
set_option maxRecDepth 100000

def itoaS (v : Int) : ByteArray := ⟨(Lib.itoa v).toArray⟩
def lineS (n : ByteArray) (v : Int) (c : ByteArray) : ByteArray := (((n ++ { data := #[32] }) ++ itoaS v) ++ { data := #[32] }) ++ c
def imgM (n : ByteArray) (v : Int) (c : ByteArray) : Int := textM (lineS n v c).data.toList
theorem imgM_ok (n : ByteArray) (v : Int) (c : ByteArray) : okM (imgM n v c) = true := textM_ok _
theorem below_grow (w : World) (k : Nat) (os : Array Obj) : Below w.heap.size w (Sort.grow (w.drewN k) os) :=
  ⟨rfl, rfl, rfl, by show _ ≤ (w.heap ++ os).size; rw [Array.size_append]; omega, fun j hj => by show (w.heap ++ os)[j]? = _; rw [Array.getElem?_append_left hj]⟩
theorem imgE_ok {n : ByteArray} {v : Int} {c : ByteArray} (h : imgE n v c = 0) : n.size ≠ 0 ∧ lowS n = true ∧ lowS c = true ∧ n.size ≤ 8 ∧ c.size ≤ 8 ∧ 1 ≤ v ∧ v ≤ 1000 := by
  unfold imgE at h
  split at h
  · cases h
  · rename_i h1
    split at h
    · cases h
    · rename_i h2
      split at h
      · cases h
      · rename_i h3
        refine ⟨fun e => h1 (Or.inl e), ?_, ?_, by omega, by omega, by omega, by omega⟩
        · cases e : lowS n
          · exact absurd (Or.inr (Or.inl e)) h1
          · rfl
        · cases e : lowS c
          · exact absurd (Or.inr (Or.inr e)) h1
          · rfl

theorem itoa_any (v : Int) (w : World) (h0 : 0 ≤ v) (h1 : v ≤ 1000) (ht : TabT w) :
    Calls Tryz.prog 24 #[.int .i64 v] w fun e w' => e = .returned (.string (itoaS v)) ∧ Below w.heap.size w w' := by
  refine (Tryz.strconv_Itoa v (by omega) (by omega) w ht).mono ?_
  rintro e w' ⟨rfl, k, os, rfl⟩
  exact ⟨rfl, below_grow w k os⟩

theorem itoa_len {v : Int} (h0 : 0 ≤ v) (h1 : v ≤ 1000) : (itoaS v).size ≤ 4 := by
  obtain ⟨n, rfl⟩ := Int.eq_ofNat_of_zero_le h0
  have e : itoaS (n : Int) = ⟨(Lib.decDigits n).toArray⟩ := by
    unfold itoaS Lib.itoa
    rw [if_neg (by omega)]; rfl
  rw [e]
  show (Lib.decDigits n).toArray.size ≤ 4
  rw [List.size_toArray]
  have hn : n ≤ 1000 := by omega
  clear e h0 h1
  unfold Lib.decDigits
  split
  · simp
  · rw [List.length_append]
    unfold Lib.decDigits
    split
    · simp
    · rw [List.length_append]
      unfold Lib.decDigits
      split
      · simp
      · rw [List.length_append]
        unfold Lib.decDigits
        rw [dif_pos (by omega)]; simp
theorem lineS_size (n : ByteArray) (v : Int) (c : ByteArray) : (lineS n v c).size = n.size + 1 + (itoaS v).size + 1 + c.size := by
  unfold lineS
  simp only [ByteArray.size_append]
  rfl

set_option maxHeartbeats 1000000 in
theorem imgLine_any (n : ByteArray) (v : Int) (c : ByteArray) (w : World) (hn : n.size ≤ 1000) (hc : c.size ≤ 1000) (h0 : 0 ≤ v) (h1 : v ≤ 1000) (ht : TabT w) :
    Calls Tryz.prog 89 #[.agg #[.string n, .int .i64 v, .string c]] w fun e w' => e = .returned (.string (lineS n v c)) ∧ Below w.heap.size w w' := by
  have b0 : Box (w.alloc (.cells #[.string n, .int .i64 v, .string c] 74)).drew w.heap.size 74 #[.string n, .int .i64 v, .string c] := Box.new _ _ _
  have hB0 := grow_drew (grow_alloc (grow_refl w) (.cells #[.string n, .int .i64 v, .string c] 74))
  have HT := Lib.hid ht
  have hv := itoa_len h0 h1
  have e1 : ({ data := #[32] } : ByteArray).size = 1 := rfl
  have f1 : ∀ w, (Op.stringOp .add n { data := #[32] }).run Tryz.prog w = .ok (.string (n ++ { data := #[32] })) w := fun w => run_string_add_sum _ _ _ (by omega)
  have f2 : ∀ w, (Op.stringOp .add (n ++ { data := #[32] }) (itoaS v)).run Tryz.prog w = .ok (.string ((n ++ { data := #[32] }) ++ itoaS v)) w := fun w => run_string_add_sum _ _ _ (by rw [ByteArray.size_append]; omega)
  have f3 : ∀ w, (Op.stringOp .add ((n ++ { data := #[32] }) ++ itoaS v) { data := #[32] }).run Tryz.prog w = .ok (.string (((n ++ { data := #[32] }) ++ itoaS v) ++ { data := #[32] })) w := fun w => run_string_add_sum _ _ _ (by rw [ByteArray.size_append, ByteArray.size_append]; omega)
  have f4 : ∀ w, (Op.stringOp .add (((n ++ { data := #[32] }) ++ itoaS v) ++ { data := #[32] }) c).run Tryz.prog w = .ok (.string ((((n ++ { data := #[32] }) ++ itoaS v) ++ { data := #[32] }) ++ c)) w := fun w => run_string_add_sum _ _ _ (by rw [ByteArray.size_append, ByteArray.size_append, ByteArray.size_append]; omega)
  clear ht e1 hv hn hc
  go_enter Tryz.func89, Tryz.ntmps89
  go_wp2_with fail
  go_region_held3 (fun w' => (∀ i, w'.cell? ⟨w.heap.size, i, none⟩ = (#[.string n, .int .i64 v, .string c] : Array Value)[i]?) ∧ Box w' w.heap.size 74 #[.string n, .int .i64 v, .string c] ∧ Below w.heap.size w w')
    (first
      | exact ⟨E1.cell, E1, E3⟩
      | exact ⟨b0.cell, b0, hB0⟩
      | (go_keep; done))
    (first
      | (go_at_call 24; go_split_ands; have p1 : Box _ w.heap.size 74 #[.string n, .int .i64 v, .string c] := (by assumption); have p3 : Below w.heap.size w _ := (by assumption); refine (itoa_any v _ h0 h1 (HT.out.below p3)).mono ?_; rintro e w3 ⟨rfl, hb3⟩; have E1 := p1.below hb3; have E3 := grow_step p3 hb3; clear p1 p3))
  go_wp2_with fail
  go_ret
  exact ⟨rfl, E3⟩

set_option maxHeartbeats 1000000 in
theorem imgIs_any (n : ByteArray) (v : Int) (c : ByteArray) (w : World) (h : imgE n v c = 0) (ht : TabT w) :
    Calls Tryz.prog 58 #[.agg #[.string n, .int .i64 v, .string c]] w fun e w' => e = .returned (.int .i64 (imgM n v c)) ∧ Below w.heap.size w w' := by
  obtain ⟨_, _, _, h1, h2, h3, h4⟩ := imgE_ok h
  have b0 := Box.new w 74 #[.string n, .int .i64 v, .string c]
  have cB := b0.cell
  have lB := b0.lt
  have HT := Lib.hid ht
  have HS : Hid ((lineS n v c).size ≤ 9000000000000000000) := Lib.hid (by rw [lineS_size]; have := itoa_len (v := v) (by omega) h4; omega)
  clear ht h
  go_enter Tryz.func58, Tryz.ntmps58
  go_wp2_with fail
  refine (imgLine_any n v c _ (by omega) (by omega) (by omega) h4 (HT.out.below (grow_alloc (grow_refl _) _))).mono ?_
  rintro e w1 ⟨rfl, hb1⟩
  go_wp2_with fail
  refine (text_any _ _ HS.out).mono ?_
  rintro e w2 ⟨rfl, hb2⟩
  go_wp2_with fail
  go_ret
  exact ⟨rfl, (by repeat (first | (with_reducible exact grow_refl _) | (with_reducible assumption) | (with_reducible refine grow_alloc ?_ _) | (with_reducible refine grow_set ?_ (by first | exact Nat.le_refl _ | (simp; done) | (simp; omega) | omega) _) | (with_reducible refine grow_drewN ?_ _) | (with_reducible refine grow_drew ?_) | (with_reducible refine grow_step ?_ (by assumption)) | (with_reducible refine grow_base ?_ (by assumption))))⟩

end Go.Proofs.YtkipjloapdolbaaGreatDoor
