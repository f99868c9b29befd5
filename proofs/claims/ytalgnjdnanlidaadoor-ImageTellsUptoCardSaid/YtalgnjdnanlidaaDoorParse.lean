/- image.Parse. -/
import Derived.Test.YtalgnjdnanlidaaDoorRows
import Derived.Test.YtalgnjdnanlidaaDoorNum
import Derived.Test.YtalgnjdnanlidaaDoorBase
import Derived.Test.YtalgnjdnanlidaaDoorImg
import Derived.Test.YtalgnjdnanlidaaDoorImg2
import Derived.Test.YtalgnjdnanlidaaDoorNumP
import Derived.Test.YtalgnjdnanlidaaDoorApp
import Derived.Test.YtalgnjdnanlidaaDoorLiftT
import Derived.Test.YtalgnjdnanlidaaDoorShelf
import Derived.WalkKit
import Derived.WalkSpells
import Derived.WalkLawsBesides
import Derived.Lib.Hide
import Derived.Deep.DeepCutAuto
import Derived.Deep.QuietTactic
import Derived.BigQuiet
import Derived.Deep.RegionHeld3
namespace Go.Proofs.YtalgnjdnanlidaaDoor
open Go.RowKit
set_option maxRecDepth 100000
set_option linter.unusedVariables false
set_option linter.unusedSimpArgs false

/-- What strconv and bytealg hold. -/
def ReadT (w : World) : Prop := TabT w ∧ (∃ m, w.cell? ⟨1, 0, none⟩ = some (.int .i64 m)) ∧ (∃ ev, w.cell? ⟨2, 0, none⟩ = some ev ∧ (ev = .nilIface ∨ ∃ te pe, ev = .iface te pe)) ∧ (∃ ev, w.cell? ⟨3, 0, none⟩ = some ev ∧ (ev = .nilIface ∨ ∃ te pe, ev = .iface te pe))
theorem ReadT.below {w w' : World} (h : ReadT w) (hb : Below w.heap.size w w') : ReadT w' := by
  obtain ⟨h1, ⟨m, h2⟩, ⟨e1, h3, h4⟩, ⟨e2, h5, h6⟩⟩ := h
  exact ⟨h1.below hb, ⟨m, (hb.cell (World.block_lt_of_cell? w _ h2)).trans h2⟩, ⟨e1, (hb.cell (World.block_lt_of_cell? w _ h3)).trans h3, h4⟩, ⟨e2, (hb.cell (World.block_lt_of_cell? w _ h5)).trans h5, h6⟩⟩
abbrev spB : ByteArray := { data := #[32] }
def wordsB (s : ByteArray) : List ByteArray := Lib.splitB spB 0 (Lib.countB s spB) s
def splitRes (w : World) (s : ByteArray) : World := w.alloc (.cells ((wordsB s).map Value.string).toArray 9)
theorem split_any (s : ByteArray) (w : World) (hs : s.size ≤ 1048576) (h : ReadT w) :
    Calls Tryd.prog 30 #[.string s, .string spB] w fun e w' => e = .returned (.slice (some ⟨w.heap.size, 0, none⟩) (Lib.countB s spB + 1) (Lib.countB s spB + 1)) ∧ w' = splitRes w s := by
  obtain ⟨m, hm⟩ := h.2.1
  exact Tryd.strings_Split s spB m w (by omega) hm (by decide)
/-- Atoi, however it ends: what it says of the number, and whether there is an error. -/
def atoiR (b : ByteArray) (e : Ending) : Prop := match Lib.atoiAll b.data.toList with
  | .ok v => e = .returned (.tuple #[.int .i64 v, .nilIface])
  | _ => ∃ n t p, e = .returned (.tuple #[.int .i64 n, .iface t (.pointer (some p))])
theorem bytes_below (w : World) (ty : TypeId) (t : ByteArray) : Below w.heap.size w (Lib.bytesWorld w ty t) := by
  unfold Lib.bytesWorld
  exact Lib.below_freeze (grow_alloc (grow_drew (grow_refl _)) _) (Nat.le_refl _) 1
theorem atoi_any (b : ByteArray) (w : World) (hs : b.size ≤ 1048576) (h : ReadT w) :
    Calls Tryd.prog 31 #[.string b] w fun e w' => atoiR b e ∧ Below w.heap.size w w' := by
  obtain ⟨_, _, ⟨e1, h3, h4⟩, ⟨e2, h5, h6⟩⟩ := h
  unfold atoiR
  rcases ha : Lib.atoiAll b.data.toList with v | _ | _
  · refine (Tryd.strconv_Atoi_ok b (by omega) v ha w).mono ?_
    rintro e w' ⟨rfl, rfl | ⟨t, rfl⟩⟩
    · exact ⟨rfl, Below.refl _ _⟩
    · exact ⟨rfl, bytes_below w _ t⟩
  · refine (Tryd.strconv_Atoi_bad b (by omega) ⟨(fun v hv => by rw [ha] at hv; cases hv), (fun hv => by rw [ha] at hv; cases hv)⟩ e1 w h3 h4).mono ?_
    rintro e w' ⟨N, rfl, _, _, hb⟩
    exact ⟨⟨_, _, _, rfl⟩, hb⟩
  · refine (Tryd.strconv_Atoi_range b (by omega) ha e2 w h5 h6).mono ?_
    rintro e w' ⟨N, rfl, _, _, hb⟩
    exact ⟨⟨_, _, _, rfl⟩, hb⟩
theorem itoa9_any (v : Int) (w : World) (h0 : -9223372036854775808 ≤ v) (h1 : v ≤ 9223372036854775807) (ht : TabT w) :
    Calls Tryd.prog 28 #[.int .i64 v] w fun e w' => e = .returned (.string (itoaS v)) ∧ Below w.heap.size w w' := by
  refine (Tryd.strconv_Itoa v (by omega) (by omega) w ht).mono ?_
  rintro e w' ⟨rfl, k, os, rfl⟩
  exact ⟨rfl, below_grow w k os⟩
set_option maxHeartbeats 1000000 in
theorem parse_few (s : ByteArray) (w : World) (hs : s.size ≤ 1048576) (h : ReadT w) (hc : Lib.countB s spB ≠ 2) :
    Calls Tryd.prog 10 #[.string s] w fun e w' => e = .returned (.tuple #[.agg #[.string ⟨#[]⟩, .int .i64 0, .string ⟨#[]⟩], errV 2]) ∧ Below w.heap.size w w' := by
  have hb : Below w.heap.size w (splitRes w s) := grow_alloc (grow_refl _) _
  have HR := Lib.hid h
  have HS := Lib.hid (fun w h => split_any s w hs h)
  obtain ⟨k, hk⟩ : ∃ k, Lib.countB s spB = k := ⟨_, rfl⟩
  rw [hk] at HS hc
  have hk1 : ¬ ((k + 1 : Nat) : Int) = 3 := by omega
  clear hk h hs
  go_enter Tryd.func10, Tryd.ntmps10
  go_wp2_with fail
  refine (HS.out _ (HR.out.below (grow_alloc (grow_refl _) _))).mono ?_
  rintro e w1 ⟨rfl, rfl⟩
  obtain ⟨w1, hw1⟩ : ∃ w1, splitRes (w.alloc (.cells #[.string ⟨#[]⟩, .int .i64 0, .string ⟨#[]⟩] 31)) s = w1 := ⟨_, rfl⟩
  have hb1 : Below (w.alloc (.cells #[.string ⟨#[]⟩, .int .i64 0, .string ⟨#[]⟩] 31)).heap.size (w.alloc (.cells #[.string ⟨#[]⟩, .int .i64 0, .string ⟨#[]⟩] 31)) w1 := by rw [← hw1]; exact grow_alloc (grow_refl _) _
  have HB := Lib.hid ((Box.new w 31 #[.string ⟨#[]⟩, .int .i64 0, .string ⟨#[]⟩]).below hb1)
  have hbw : Below w.heap.size w w1 := grow_step (grow_alloc (grow_refl _) _) hb1
  rw [hw1]
  clear hw1 hb1 hb
  have cB := HB.out.cell
  have lB := HB.out.lt
  have fB := HB.out.frozen
  go_wp2_with fail
  exact bodyPost_ret (v := .tuple #[.agg #[.string ⟨#[]⟩, .int .i64 0, .string ⟨#[]⟩], errV 2]) (ret_cell_tmp Tryd.results10 rfl (HB.out.fill3 (.string ⟨#[]⟩) (.int .i64 0) (.string ⟨#[]⟩)) Tryd.underlying31 rfl (by kernel_rfl)) rfl ⟨rfl, (by repeat (first | (with_reducible exact grow_refl _) | (with_reducible assumption) | (with_reducible refine grow_alloc ?_ _) | (with_reducible refine grow_set ?_ (by first | exact Nat.le_refl _ | (simp; done) | (simp; omega) | omega) _) | (with_reducible refine grow_drewN ?_ _) | (with_reducible refine grow_drew ?_) | (with_reducible refine grow_step ?_ (by assumption)) | (with_reducible refine grow_base ?_ (by assumption))))⟩

theorem held_neq (t : TypeId) (p : Addr) (w : World) : (binOp .neq 25 (.iface t (.pointer (some p))) .nilIface).run Tryd.prog w = .ok (.bool true) w := by kernel_rfl
theorem held_guard (o : Nat) (t : TypeId) (p : Addr) (w : World) : (eqGuard .neq 25 (.tmp o) (.const .nilIface) (.iface t (.pointer (some p))) .nilIface).run Tryd.prog w = .ok () w := by kernel_rfl
/-- The three words of a text with two blanks. -/
theorem words3 {s : ByteArray} (h : Lib.countB s spB = 2) (h3 : (wordsB s).length = 3) : ∃ a b c, wordsB s = [a, b, c] := by
  rcases hq : wordsB s with _ | ⟨a, _ | ⟨b, _ | ⟨c, _ | ⟨d, r⟩⟩⟩⟩
  all_goals (rw [hq] at h3; simp at h3)
  exact ⟨a, b, c, rfl⟩
/-- The world in which the number's word is read. -/
abbrev imgZ (w : World) : World := w.alloc (.cells #[.string ⟨#[]⟩, .int .i64 0, .string ⟨#[]⟩] 31)
set_option maxHeartbeats 1000000 in
/-- Three words, and the middle one is no number. -/
theorem parse_bad (s a b c : ByteArray) (w : World) (hs : s.size ≤ 1048576) (h : ReadT w) (hc : Lib.countB s spB = 2) (hw : wordsB s = [a, b, c]) 
    (hA : ∀ w, ReadT w → Calls Tryd.prog 31 #[.string b] w fun e w' => (∃ n t p, e = .returned (.tuple #[.int .i64 n, .iface t (.pointer (some p))])) ∧ Below w.heap.size w w') :
    Calls Tryd.prog 10 #[.string s] w fun e w' => e = .returned (.tuple #[.agg #[.string ⟨#[]⟩, .int .i64 0, .string ⟨#[]⟩], errV 2]) ∧ Below w.heap.size w w' := by
  have HR := Lib.hid h
  have HA := Lib.hid hA
  have HS := Lib.hid (fun w h => split_any s w hs h)
  rw [hc] at HS
  clear h hs hA
  go_enter Tryd.func10, Tryd.ntmps10
  go_wp2_with fail
  refine (HS.out _ (HR.out.below (grow_alloc (grow_refl _) _))).mono ?_
  rintro e w1 ⟨rfl, rfl⟩
  have hb0 : Below w.heap.size w (imgZ w) := grow_alloc (grow_refl _) _
  have hZ : (imgZ w).heap.size = w.heap.size + 1 := by simp
  obtain ⟨w1, hw1⟩ : ∃ w1, splitRes (imgZ w) s = w1 := ⟨_, rfl⟩
  have hC : CellsAt w1 (some ⟨w.heap.size + 1, 0, none⟩) [.string a, .string b, .string c] := by
    rw [← hw1, ← hZ]
    unfold splitRes
    rw [hw]
    exact CellsAt.new_ (imgZ w) 9 [.string a, .string b, .string c] (0, 0)
  have hb1 : Below (imgZ w).heap.size (imgZ w) w1 := by rw [← hw1]; exact grow_alloc (grow_refl _) _
  have HB := Lib.hid ((Box.new w 31 #[.string ⟨#[]⟩, .int .i64 0, .string ⟨#[]⟩]).below hb1)
  have hbw : Below w.heap.size w w1 := grow_step hb0 hb1
  have HC := Lib.hid hC
  obtain ⟨b1, o1, q1, l1, c1⟩ := hC 1 (.string b) rfl
  injection q1 with q1
  injection q1 with q1 q2
  subst q1
  subst q2
  simp only [Nat.zero_add] at c1
  rw [hw1]
  clear hw1 hb1 hb0 hC
  go_wp2_with fail
  refine (HA.out _ (HR.out.below hbw)).mono ?_
  rintro e w2 ⟨⟨n, t, p, rfl⟩, hb2⟩
  have HB2 := Lib.hid (HB.out.below hb2)
  have HC2 := Lib.hid (HC.out.below hb2)
  have hbw2 : Below w.heap.size w w2 := grow_step hbw hb2
  have cB := HB2.out.cell
  have lB := HB2.out.lt
  have fB := HB2.out.frozen
  have c2 := (hb2.cell (p := ⟨w.heap.size + 1, 1, none⟩) l1).trans c1
  have l2 : w.heap.size + 1 < w2.heap.size := Nat.lt_of_lt_of_le l1 hb2.size
  clear hb2 HB c1 l1 HC
  have en := fun w => held_neq t p w
  have gn := fun o w => held_guard o t p w
  go_wp2_with fail
  go_quiet (fail)
  go_wp2_with fail
  exact bodyPost_ret (v := .tuple #[.agg #[.string ⟨#[]⟩, .int .i64 0, .string ⟨#[]⟩], errV 2]) (ret_cell_tmp Tryd.results10 rfl ((HB2.out.drewN_ nq).fill3 (.string ⟨#[]⟩) (.int .i64 0) (.string ⟨#[]⟩)) Tryd.underlying31 rfl (by kernel_rfl)) rfl ⟨rfl, (by repeat (first | (with_reducible exact grow_refl _) | (with_reducible assumption) | (with_reducible refine grow_alloc ?_ _) | (with_reducible refine grow_set ?_ (by first | exact Nat.le_refl _ | (simp; done) | (simp; omega) | omega) _) | (with_reducible refine grow_drewN ?_ _) | (with_reducible refine grow_drew ?_) | (with_reducible refine grow_step ?_ (by assumption)) | (with_reducible refine grow_base ?_ (by assumption))))⟩
set_option maxHeartbeats 1000000 in
/-- A number below nought. -/
theorem parse_neg (s a b c : ByteArray) (w : World) (hs : s.size ≤ 1048576) (h : ReadT w) (hc : Lib.countB s spB = 2) (hw : wordsB s = [a, b, c]) (n : Int) (hn : n < 0)
    (hA : ∀ w, ReadT w → Calls Tryd.prog 31 #[.string b] w fun e w' => (e = .returned (.tuple #[.int .i64 n, .nilIface])) ∧ Below w.heap.size w w') :
    Calls Tryd.prog 10 #[.string s] w fun e w' => e = .returned (.tuple #[.agg #[.string ⟨#[]⟩, .int .i64 0, .string ⟨#[]⟩], errV 2]) ∧ Below w.heap.size w w' := by
  have HR := Lib.hid h
  have HA := Lib.hid hA
  have HS := Lib.hid (fun w h => split_any s w hs h)
  rw [hc] at HS
  clear h hs hA
  go_enter Tryd.func10, Tryd.ntmps10
  go_wp2_with fail
  refine (HS.out _ (HR.out.below (grow_alloc (grow_refl _) _))).mono ?_
  rintro e w1 ⟨rfl, rfl⟩
  have hb0 : Below w.heap.size w (imgZ w) := grow_alloc (grow_refl _) _
  have hZ : (imgZ w).heap.size = w.heap.size + 1 := by simp
  obtain ⟨w1, hw1⟩ : ∃ w1, splitRes (imgZ w) s = w1 := ⟨_, rfl⟩
  have hC : CellsAt w1 (some ⟨w.heap.size + 1, 0, none⟩) [.string a, .string b, .string c] := by
    rw [← hw1, ← hZ]
    unfold splitRes
    rw [hw]
    exact CellsAt.new_ (imgZ w) 9 [.string a, .string b, .string c] (0, 0)
  have hb1 : Below (imgZ w).heap.size (imgZ w) w1 := by rw [← hw1]; exact grow_alloc (grow_refl _) _
  have HB := Lib.hid ((Box.new w 31 #[.string ⟨#[]⟩, .int .i64 0, .string ⟨#[]⟩]).below hb1)
  have hbw : Below w.heap.size w w1 := grow_step hb0 hb1
  have HC := Lib.hid hC
  obtain ⟨b1, o1, q1, l1, c1⟩ := hC 1 (.string b) rfl
  injection q1 with q1
  injection q1 with q1 q2
  subst q1
  subst q2
  simp only [Nat.zero_add] at c1
  rw [hw1]
  clear hw1 hb1 hb0 hC
  go_wp2_with fail
  refine (HA.out _ (HR.out.below hbw)).mono ?_
  rintro e w2 ⟨rfl, hb2⟩
  have HB2 := Lib.hid (HB.out.below hb2)
  have HC2 := Lib.hid (HC.out.below hb2)
  have hbw2 : Below w.heap.size w w2 := grow_step hbw hb2
  have cB := HB2.out.cell
  have lB := HB2.out.lt
  have fB := HB2.out.frozen
  have c2 := (hb2.cell (p := ⟨w.heap.size + 1, 1, none⟩) l1).trans c1
  have l2 : w.heap.size + 1 < w2.heap.size := Nat.lt_of_lt_of_le l1 hb2.size
  clear hb2 HB c1 l1 HC
  have en := fun w => err_neq 0 w
  have gn := fun o w => err_guard_neq o 0 w
  go_wp2_with fail
  go_quiet (fail)
  go_wp2_with fail
  exact bodyPost_ret (v := .tuple #[.agg #[.string ⟨#[]⟩, .int .i64 0, .string ⟨#[]⟩], errV 2]) (ret_cell_tmp Tryd.results10 rfl ((HB2.out.drewN_ nq).fill3 (.string ⟨#[]⟩) (.int .i64 0) (.string ⟨#[]⟩)) Tryd.underlying31 rfl (by kernel_rfl)) rfl ⟨rfl, (by repeat (first | (with_reducible exact grow_refl _) | (with_reducible assumption) | (with_reducible refine grow_alloc ?_ _) | (with_reducible refine grow_set ?_ (by first | exact Nat.le_refl _ | (simp; done) | (simp; omega) | omega) _) | (with_reducible refine grow_drewN ?_ _) | (with_reducible refine grow_drew ?_) | (with_reducible refine grow_step ?_ (by assumption)) | (with_reducible refine grow_base ?_ (by assumption))))⟩
set_option maxHeartbeats 1000000 in
/-- A number of too many letters. -/
theorem parse_long (s a b c : ByteArray) (w : World) (hs : s.size ≤ 1048576) (h : ReadT w) (hc : Lib.countB s spB = 2) (hw : wordsB s = [a, b, c]) (n : Int) (hn : ¬ n < 0) (hb4 : 4 < (b.size : Int)) (hbs : b.size ≤ 1048576)
    (hA : ∀ w, ReadT w → Calls Tryd.prog 31 #[.string b] w fun e w' => (e = .returned (.tuple #[.int .i64 n, .nilIface])) ∧ Below w.heap.size w w') :
    Calls Tryd.prog 10 #[.string s] w fun e w' => e = .returned (.tuple #[.agg #[.string ⟨#[]⟩, .int .i64 0, .string ⟨#[]⟩], errV 2]) ∧ Below w.heap.size w w' := by
  have HR := Lib.hid h
  have HA := Lib.hid hA
  have HS := Lib.hid (fun w h => split_any s w hs h)
  rw [hc] at HS
  clear h hs hA
  go_enter Tryd.func10, Tryd.ntmps10
  go_wp2_with fail
  refine (HS.out _ (HR.out.below (grow_alloc (grow_refl _) _))).mono ?_
  rintro e w1 ⟨rfl, rfl⟩
  have hb0 : Below w.heap.size w (imgZ w) := grow_alloc (grow_refl _) _
  have hZ : (imgZ w).heap.size = w.heap.size + 1 := by simp
  obtain ⟨w1, hw1⟩ : ∃ w1, splitRes (imgZ w) s = w1 := ⟨_, rfl⟩
  have hC : CellsAt w1 (some ⟨w.heap.size + 1, 0, none⟩) [.string a, .string b, .string c] := by
    rw [← hw1, ← hZ]
    unfold splitRes
    rw [hw]
    exact CellsAt.new_ (imgZ w) 9 [.string a, .string b, .string c] (0, 0)
  have hb1 : Below (imgZ w).heap.size (imgZ w) w1 := by rw [← hw1]; exact grow_alloc (grow_refl _) _
  have HB := Lib.hid ((Box.new w 31 #[.string ⟨#[]⟩, .int .i64 0, .string ⟨#[]⟩]).below hb1)
  have hbw : Below w.heap.size w w1 := grow_step hb0 hb1
  have HC := Lib.hid hC
  obtain ⟨b1, o1, q1, l1, c1⟩ := hC 1 (.string b) rfl
  injection q1 with q1
  injection q1 with q1 q2
  subst q1
  subst q2
  simp only [Nat.zero_add] at c1
  rw [hw1]
  clear hw1 hb1 hb0 hC
  go_wp2_with fail
  refine (HA.out _ (HR.out.below hbw)).mono ?_
  rintro e w2 ⟨rfl, hb2⟩
  have HB2 := Lib.hid (HB.out.below hb2)
  have HC2 := Lib.hid (HC.out.below hb2)
  have hbw2 : Below w.heap.size w w2 := grow_step hbw hb2
  have cB := HB2.out.cell
  have lB := HB2.out.lt
  have fB := HB2.out.frozen
  have c2 := (hb2.cell (p := ⟨w.heap.size + 1, 1, none⟩) l1).trans c1
  have l2 : w.heap.size + 1 < w2.heap.size := Nat.lt_of_lt_of_le l1 hb2.size
  clear hb2 HB c1 l1 HC
  have en := fun w => err_neq 0 w
  have gn := fun o w => err_guard_neq o 0 w
  go_wp2_with fail
  go_quiet (fail)
  go_wp2_with fail
  exact bodyPost_ret (v := .tuple #[.agg #[.string ⟨#[]⟩, .int .i64 0, .string ⟨#[]⟩], errV 2]) (ret_cell_tmp Tryd.results10 rfl ((HB2.out.drewN_ nq).fill3 (.string ⟨#[]⟩) (.int .i64 0) (.string ⟨#[]⟩)) Tryd.underlying31 rfl (by kernel_rfl)) rfl ⟨rfl, (by repeat (first | (with_reducible exact grow_refl _) | (with_reducible assumption) | (with_reducible refine grow_alloc ?_ _) | (with_reducible refine grow_set ?_ (by first | exact Nat.le_refl _ | (simp; done) | (simp; omega) | omega) _) | (with_reducible refine grow_drewN ?_ _) | (with_reducible refine grow_drew ?_) | (with_reducible refine grow_step ?_ (by assumption)) | (with_reducible refine grow_base ?_ (by assumption))))⟩

set_option maxHeartbeats 1000000 in
/-- A number that is written otherwise. -/
theorem parse_other (s a b c : ByteArray) (w : World) (hs : s.size ≤ 1048576) (h : ReadT w) (hc : Lib.countB s spB = 2) (hw : wordsB s = [a, b, c]) (n : Int) (hn : ¬ n < 0) (hn9 : n ≤ 9223372036854775807) (hb4 : ¬ 4 < (b.size : Int)) (hX : ((itoaS n).toList == b.toList) = false)
    (hA : ∀ w, ReadT w → Calls Tryd.prog 31 #[.string b] w fun e w' => (e = .returned (.tuple #[.int .i64 n, .nilIface])) ∧ Below w.heap.size w w') :
    Calls Tryd.prog 10 #[.string s] w fun e w' => e = .returned (.tuple #[.agg #[.string ⟨#[]⟩, .int .i64 0, .string ⟨#[]⟩], errV 2]) ∧ Below w.heap.size w w' := by
  have HR := Lib.hid h
  have HA := Lib.hid hA
  have HS := Lib.hid (fun w h => split_any s w hs h)
  rw [hc] at HS
  have HI := Lib.hid (fun w (h : ReadT w) => itoa9_any n w (by omega) hn9 h.1)
  obtain ⟨X, hXX⟩ : ∃ X, itoaS n = X := ⟨_, rfl⟩
  rw [hXX] at HI hX
  clear h hs hA hXX
  go_enter Tryd.func10, Tryd.ntmps10
  go_wp2_with fail
  refine (HS.out _ (HR.out.below (grow_alloc (grow_refl _) _))).mono ?_
  rintro e w1 ⟨rfl, rfl⟩
  have hb0 : Below w.heap.size w (imgZ w) := grow_alloc (grow_refl _) _
  have hZ : (imgZ w).heap.size = w.heap.size + 1 := by simp
  obtain ⟨w1, hw1⟩ : ∃ w1, splitRes (imgZ w) s = w1 := ⟨_, rfl⟩
  have hC : CellsAt w1 (some ⟨w.heap.size + 1, 0, none⟩) [.string a, .string b, .string c] := by
    rw [← hw1, ← hZ]
    unfold splitRes
    rw [hw]
    exact CellsAt.new_ (imgZ w) 9 [.string a, .string b, .string c] (0, 0)
  have hb1 : Below (imgZ w).heap.size (imgZ w) w1 := by rw [← hw1]; exact grow_alloc (grow_refl _) _
  have HB := Lib.hid ((Box.new w 31 #[.string ⟨#[]⟩, .int .i64 0, .string ⟨#[]⟩]).below hb1)
  have hbw : Below w.heap.size w w1 := grow_step hb0 hb1
  have HC := Lib.hid hC
  obtain ⟨b1, o1, q1, l1, c1⟩ := hC 1 (.string b) rfl
  injection q1 with q1
  injection q1 with q1 q2
  subst q1
  subst q2
  simp only [Nat.zero_add] at c1
  rw [hw1]
  clear hw1 hb1 hb0 hC
  go_wp2_with fail
  refine (HA.out _ (HR.out.below hbw)).mono ?_
  rintro e w2 ⟨rfl, hb2⟩
  have HB2 := Lib.hid (HB.out.below hb2)
  have HC2 := Lib.hid (HC.out.below hb2)
  have hbw2 : Below w.heap.size w w2 := grow_step hbw hb2
  have cB := HB2.out.cell
  have lB := HB2.out.lt
  have fB := HB2.out.frozen
  have c2 := (hb2.cell (p := ⟨w.heap.size + 1, 1, none⟩) l1).trans c1
  have l2 : w.heap.size + 1 < w2.heap.size := Nat.lt_of_lt_of_le l1 hb2.size
  clear hb2 HB c1 l1 HC
  have en := fun w => err_neq 0 w
  have gn := fun o w => err_guard_neq o 0 w
  have hR2 := Lib.hid (HR.out.below hbw2)
  have hd1 : decide (n < 0) = false := decide_eq_false (by omega)
  have hd2 : decide (4 < (b.size : Int)) = false := decide_eq_false (by omega)
  have hbw0 : Below w2.heap.size w2 w2.drew := grow_drew (grow_refl _)
  go_wp2_with fail
  go_region_held3 (fun w' => w'.cell? ⟨w.heap.size + 1, 1, none⟩ = some (.string b) ∧ Below w2.heap.size w2 w')
    (first
      | exact ⟨(E3.cell (p := ⟨w.heap.size + 1, 1, none⟩) l2).trans c2, E3⟩
      | exact ⟨c2, hbw0⟩
      | (go_keep; done))
    (first
      | (go_at_call 28; go_split_ands; have p3 : Below w2.heap.size w2 _ := (by assumption); refine (HI.out _ (hR2.out.below p3)).mono ?_; rintro e w3 ⟨rfl, hb3⟩; have E3 := grow_step p3 hb3; clear p3))
  have HB4 := Lib.hid (HB2.out.below E3)
  have hbw4 : Below w.heap.size w _ := grow_step hbw2 E3
  have cB4 := HB4.out.cell
  have lB4 := HB4.out.lt
  have fB4 := HB4.out.frozen
  clear cB lB fB
  go_wp2_with fail
  exact bodyPost_ret (v := .tuple #[.agg #[.string ⟨#[]⟩, .int .i64 0, .string ⟨#[]⟩], errV 2]) (ret_cell_tmp Tryd.results10 rfl (HB4.out.fill3 (.string ⟨#[]⟩) (.int .i64 0) (.string ⟨#[]⟩)) Tryd.underlying31 rfl (by kernel_rfl)) rfl ⟨rfl, (by repeat (first | (with_reducible exact grow_refl _) | (with_reducible assumption) | (with_reducible refine grow_alloc ?_ _) | (with_reducible refine grow_set ?_ (by first | exact Nat.le_refl _ | (simp; done) | (simp; omega) | omega) _) | (with_reducible refine grow_drewN ?_ _) | (with_reducible refine grow_drew ?_) | (with_reducible refine grow_step ?_ (by assumption)) | (with_reducible refine grow_base ?_ (by assumption))))⟩

set_option maxHeartbeats 1000000 in
/-- An image's three words. -/
theorem parse_img (s a b c : ByteArray) (w : World) (hs : s.size ≤ 1048576) (h : ReadT w) (hc : Lib.countB s spB = 2) (hw : wordsB s = [a, b, c]) (n : Int) (hn : ¬ n < 0) (hn9 : n ≤ 9223372036854775807) (hb4 : ¬ 4 < (b.size : Int)) (hX : ((itoaS n).toList == b.toList) = true) (hi : imgE a n c = 0) (hza : a.size ≤ 1048576) (hzc : c.size ≤ 1048576)
    (hA : ∀ w, ReadT w → Calls Tryd.prog 31 #[.string b] w fun e w' => (e = .returned (.tuple #[.int .i64 n, .nilIface])) ∧ Below w.heap.size w w') :
    Calls Tryd.prog 10 #[.string s] w fun e w' => e = .returned (.tuple #[.agg #[.string a, .int .i64 n, .string c], errV 0]) ∧ Below w.heap.size w w' := by
  have HR := Lib.hid h
  have HA := Lib.hid hA
  have HS := Lib.hid (fun w h => split_any s w hs h)
  rw [hc] at HS
  have HI := Lib.hid (fun w (h : ReadT w) => itoa9_any n w (by omega) hn9 h.1)
  obtain ⟨X, hXX⟩ : ∃ X, itoaS n = X := ⟨_, rfl⟩
  rw [hXX] at HI hX
  have HII := Lib.hid hi
  clear h hs hA hXX hi
  go_enter Tryd.func10, Tryd.ntmps10
  go_wp2_with fail
  refine (HS.out _ (HR.out.below (grow_alloc (grow_refl _) _))).mono ?_
  rintro e w1 ⟨rfl, rfl⟩
  have hb0 : Below w.heap.size w (imgZ w) := grow_alloc (grow_refl _) _
  have hZ : (imgZ w).heap.size = w.heap.size + 1 := by simp
  obtain ⟨w1, hw1⟩ : ∃ w1, splitRes (imgZ w) s = w1 := ⟨_, rfl⟩
  have hC : CellsAt w1 (some ⟨w.heap.size + 1, 0, none⟩) [.string a, .string b, .string c] := by
    rw [← hw1, ← hZ]
    unfold splitRes
    rw [hw]
    exact CellsAt.new_ (imgZ w) 9 [.string a, .string b, .string c] (0, 0)
  have hb1 : Below (imgZ w).heap.size (imgZ w) w1 := by rw [← hw1]; exact grow_alloc (grow_refl _) _
  have HB := Lib.hid ((Box.new w 31 #[.string ⟨#[]⟩, .int .i64 0, .string ⟨#[]⟩]).below hb1)
  have hbw : Below w.heap.size w w1 := grow_step hb0 hb1
  have HC := Lib.hid hC
  obtain ⟨b1, o1, q1, l1, c1⟩ := hC 1 (.string b) rfl
  injection q1 with q1
  injection q1 with q1 q2
  subst q1
  subst q2
  simp only [Nat.zero_add] at c1
  rw [hw1]
  clear hw1 hb1 hb0 hC
  go_wp2_with fail
  refine (HA.out _ (HR.out.below hbw)).mono ?_
  rintro e w2 ⟨rfl, hb2⟩
  have HB2 := Lib.hid (HB.out.below hb2)
  have HC2 := Lib.hid (HC.out.below hb2)
  have hbw2 : Below w.heap.size w w2 := grow_step hbw hb2
  have cB := HB2.out.cell
  have lB := HB2.out.lt
  have fB := HB2.out.frozen
  have c2 := (hb2.cell (p := ⟨w.heap.size + 1, 1, none⟩) l1).trans c1
  have l2 : w.heap.size + 1 < w2.heap.size := Nat.lt_of_lt_of_le l1 hb2.size
  clear hb2 HB c1 l1 HC
  have en := fun w => err_neq 0 w
  have gn := fun o w => err_guard_neq o 0 w
  have hR2 := Lib.hid (HR.out.below hbw2)
  have hd1 : decide (n < 0) = false := decide_eq_false (by omega)
  have hd2 : decide (4 < (b.size : Int)) = false := decide_eq_false (by omega)
  have hbw0 : Below w2.heap.size w2 w2.drew := grow_drew (grow_refl _)
  go_wp2_with fail
  go_region_held3 (fun w' => w'.cell? ⟨w.heap.size + 1, 1, none⟩ = some (.string b) ∧ Below w2.heap.size w2 w')
    (first
      | exact ⟨(E3.cell (p := ⟨w.heap.size + 1, 1, none⟩) l2).trans c2, E3⟩
      | exact ⟨c2, hbw0⟩
      | (go_keep; done))
    (first
      | (go_at_call 28; go_split_ands; have p3 : Below w2.heap.size w2 _ := (by assumption); refine (HI.out _ (hR2.out.below p3)).mono ?_; rintro e w3 ⟨rfl, hb3⟩; have E3 := grow_step p3 hb3; clear p3))
  have HB4 := Lib.hid (HB2.out.below E3)
  have HC4 := Lib.hid (HC2.out.below E3)
  have hbw4 : Below w.heap.size w _ := grow_step hbw2 E3
  obtain ⟨b1, o1, q1, l4, c4⟩ := HC4.out 0 (.string a) rfl
  injection q1 with q1
  injection q1 with q1 q2
  subst q1
  subst q2
  obtain ⟨b1, o1, q1, l5, c5⟩ := HC4.out 2 (.string c) rfl
  injection q1 with q1
  injection q1 with q1 q2
  subst q1
  subst q2
  simp only [Nat.zero_add] at c4 c5
  have cB4 := HB4.out.cell
  have lB4 := HB4.out.lt
  have fB4 := HB4.out.frozen
  clear cB lB fB c2 l2
  go_wp2_with fail
  go_region
  all_goals go_wp2_with fail
  have hb4 : Below w3.heap.size w3 (w3.alloc (.cells #[.string a, .int .i64 n, .string c] 31)).drew := grow_drew (grow_alloc (grow_refl _) _)
  have HM := Lib.hid (show Box (w3.alloc (.cells #[.string a, .int .i64 n, .string c] 31)).drew w3.heap.size 31 #[.string a, .int .i64 n, .string c] from Box.new _ _ _)
  refine (imgCheck_any a n c _ (by omega) (by omega)).mono ?_
  rintro e w5 ⟨rfl, hb5⟩
  rw [HII.out]
  have HB5 := Lib.hid ((HB4.out.below hb4).below hb5)
  have HM5 := Lib.hid (HM.out.below hb5)
  have hbw5 : Below w.heap.size w w5 := grow_step (grow_step hbw4 hb4) hb5
  have cM := HM5.out.cell
  have lM := HM5.out.lt
  have cB5 := HB5.out.cell
  have lB5 := HB5.out.lt
  have fB5 := HB5.out.frozen
  clear cB4 lB4 fB4 c4 c5 l4 l5 hb4 hb5
  go_wp2_with fail
  exact bodyPost_ret (v := .tuple #[.agg #[.string a, .int .i64 n, .string c], errV 0]) (ret_cell_tmp Tryd.results10 rfl (HB5.out.fill3 (.string a) (.int .i64 n) (.string c)) Tryd.underlying31 rfl (by kernel_rfl)) rfl ⟨rfl, (by repeat (first | (with_reducible exact grow_refl _) | (with_reducible assumption) | (with_reducible refine grow_alloc ?_ _) | (with_reducible refine grow_set ?_ (by first | exact Nat.le_refl _ | (simp; done) | (simp; omega) | omega) _) | (with_reducible refine grow_drewN ?_ _) | (with_reducible refine grow_drew ?_) | (with_reducible refine grow_step ?_ (by assumption)) | (with_reducible refine grow_base ?_ (by assumption))))⟩

set_option maxHeartbeats 1000000 in
/-- Three words that are no image. -/
theorem parse_fault (s a b c : ByteArray) (w : World) (hs : s.size ≤ 1048576) (h : ReadT w) (hc : Lib.countB s spB = 2) (hw : wordsB s = [a, b, c]) (n : Int) (hn : ¬ n < 0) (hn9 : n ≤ 9223372036854775807) (hb4 : ¬ 4 < (b.size : Int)) (hX : ((itoaS n).toList == b.toList) = true) (E : Int) (hi : imgE a n c = E) (h0 : E ≠ 0) (hza : a.size ≤ 1048576) (hzc : c.size ≤ 1048576)
    (hA : ∀ w, ReadT w → Calls Tryd.prog 31 #[.string b] w fun e w' => (e = .returned (.tuple #[.int .i64 n, .nilIface])) ∧ Below w.heap.size w w') :
    Calls Tryd.prog 10 #[.string s] w fun e w' => e = .returned (.tuple #[.agg #[.string ⟨#[]⟩, .int .i64 0, .string ⟨#[]⟩], errV E]) ∧ Below w.heap.size w w' := by
  have HR := Lib.hid h
  have HA := Lib.hid hA
  have HS := Lib.hid (fun w h => split_any s w hs h)
  rw [hc] at HS
  have HI := Lib.hid (fun w (h : ReadT w) => itoa9_any n w (by omega) hn9 h.1)
  obtain ⟨X, hXX⟩ : ∃ X, itoaS n = X := ⟨_, rfl⟩
  rw [hXX] at HI hX
  have HII := Lib.hid hi
  have tE : (E != 0) = true := by simp [h0]
  clear h hs hA hXX hi h0
  go_enter Tryd.func10, Tryd.ntmps10
  go_wp2_with fail
  refine (HS.out _ (HR.out.below (grow_alloc (grow_refl _) _))).mono ?_
  rintro e w1 ⟨rfl, rfl⟩
  have hb0 : Below w.heap.size w (imgZ w) := grow_alloc (grow_refl _) _
  have hZ : (imgZ w).heap.size = w.heap.size + 1 := by simp
  obtain ⟨w1, hw1⟩ : ∃ w1, splitRes (imgZ w) s = w1 := ⟨_, rfl⟩
  have hC : CellsAt w1 (some ⟨w.heap.size + 1, 0, none⟩) [.string a, .string b, .string c] := by
    rw [← hw1, ← hZ]
    unfold splitRes
    rw [hw]
    exact CellsAt.new_ (imgZ w) 9 [.string a, .string b, .string c] (0, 0)
  have hb1 : Below (imgZ w).heap.size (imgZ w) w1 := by rw [← hw1]; exact grow_alloc (grow_refl _) _
  have HB := Lib.hid ((Box.new w 31 #[.string ⟨#[]⟩, .int .i64 0, .string ⟨#[]⟩]).below hb1)
  have hbw : Below w.heap.size w w1 := grow_step hb0 hb1
  have HC := Lib.hid hC
  obtain ⟨b1, o1, q1, l1, c1⟩ := hC 1 (.string b) rfl
  injection q1 with q1
  injection q1 with q1 q2
  subst q1
  subst q2
  simp only [Nat.zero_add] at c1
  rw [hw1]
  clear hw1 hb1 hb0 hC
  go_wp2_with fail
  refine (HA.out _ (HR.out.below hbw)).mono ?_
  rintro e w2 ⟨rfl, hb2⟩
  have HB2 := Lib.hid (HB.out.below hb2)
  have HC2 := Lib.hid (HC.out.below hb2)
  have hbw2 : Below w.heap.size w w2 := grow_step hbw hb2
  have cB := HB2.out.cell
  have lB := HB2.out.lt
  have fB := HB2.out.frozen
  have c2 := (hb2.cell (p := ⟨w.heap.size + 1, 1, none⟩) l1).trans c1
  have l2 : w.heap.size + 1 < w2.heap.size := Nat.lt_of_lt_of_le l1 hb2.size
  clear hb2 HB c1 l1 HC
  have en := fun k w => err_neq k w
  have gn := fun o k w => err_guard_neq o k w
  have en0 := fun w => err_neq 0 w
  have gn0 := fun o w => err_guard_neq o 0 w
  have hR2 := Lib.hid (HR.out.below hbw2)
  have hd1 : decide (n < 0) = false := decide_eq_false (by omega)
  have hd2 : decide (4 < (b.size : Int)) = false := decide_eq_false (by omega)
  have hbw0 : Below w2.heap.size w2 w2.drew := grow_drew (grow_refl _)
  go_wp2_with fail
  go_region_held3 (fun w' => w'.cell? ⟨w.heap.size + 1, 1, none⟩ = some (.string b) ∧ Below w2.heap.size w2 w')
    (first
      | exact ⟨(E3.cell (p := ⟨w.heap.size + 1, 1, none⟩) l2).trans c2, E3⟩
      | exact ⟨c2, hbw0⟩
      | (go_keep; done))
    (first
      | (go_at_call 28; go_split_ands; have p3 : Below w2.heap.size w2 _ := (by assumption); refine (HI.out _ (hR2.out.below p3)).mono ?_; rintro e w3 ⟨rfl, hb3⟩; have E3 := grow_step p3 hb3; clear p3))
  have HB4 := Lib.hid (HB2.out.below E3)
  have HC4 := Lib.hid (HC2.out.below E3)
  have hbw4 : Below w.heap.size w _ := grow_step hbw2 E3
  obtain ⟨b1, o1, q1, l4, c4⟩ := HC4.out 0 (.string a) rfl
  injection q1 with q1
  injection q1 with q1 q2
  subst q1
  subst q2
  obtain ⟨b1, o1, q1, l5, c5⟩ := HC4.out 2 (.string c) rfl
  injection q1 with q1
  injection q1 with q1 q2
  subst q1
  subst q2
  simp only [Nat.zero_add] at c4 c5
  have cB4 := HB4.out.cell
  have lB4 := HB4.out.lt
  have fB4 := HB4.out.frozen
  clear cB lB fB c2 l2
  go_wp2_with fail
  go_region
  all_goals go_wp2_with fail
  have hb4 : Below w3.heap.size w3 (w3.alloc (.cells #[.string a, .int .i64 n, .string c] 31)).drew := grow_drew (grow_alloc (grow_refl _) _)
  have HM := Lib.hid (show Box (w3.alloc (.cells #[.string a, .int .i64 n, .string c] 31)).drew w3.heap.size 31 #[.string a, .int .i64 n, .string c] from Box.new _ _ _)
  refine (imgCheck_any a n c _ (by omega) (by omega)).mono ?_
  rintro e w5 ⟨rfl, hb5⟩
  rw [HII.out]
  have HB5 := Lib.hid ((HB4.out.below hb4).below hb5)
  have HM5 := Lib.hid (HM.out.below hb5)
  have hbw5 : Below w.heap.size w w5 := grow_step (grow_step hbw4 hb4) hb5
  have cM := HM5.out.cell
  have lM := HM5.out.lt
  have cB5 := HB5.out.cell
  have lB5 := HB5.out.lt
  have fB5 := HB5.out.frozen
  clear cB4 lB4 fB4 c4 c5 l4 l5 hb4 hb5
  go_wp2_with fail
  exact bodyPost_ret (v := .tuple #[.agg #[.string ⟨#[]⟩, .int .i64 0, .string ⟨#[]⟩], errV E]) (ret_cell_tmp Tryd.results10 rfl (HB5.out.fill3 (.string ⟨#[]⟩) (.int .i64 0) (.string ⟨#[]⟩)) Tryd.underlying31 rfl (by kernel_rfl)) rfl ⟨rfl, (by repeat (first | (with_reducible exact grow_refl _) | (with_reducible assumption) | (with_reducible refine grow_alloc ?_ _) | (with_reducible refine grow_set ?_ (by first | exact Nat.le_refl _ | (simp; done) | (simp; omega) | omega) _) | (with_reducible refine grow_drewN ?_ _) | (with_reducible refine grow_drew ?_) | (with_reducible refine grow_step ?_ (by assumption)) | (with_reducible refine grow_base ?_ (by assumption))))⟩

end Go.Proofs.YtalgnjdnanlidaaDoor
