/- image.Parse. -/
import Derived.Test.YtegiffdlfpdbkaaGreatDoorRows
import Derived.Test.YtegiffdlfpdbkaaGreatDoorWordsA
import Derived.Test.YtegiffdlfpdbkaaGreatDoorNum
import Derived.Test.YtegiffdlfpdbkaaGreatDoorBase
import Derived.Test.YtegiffdlfpdbkaaGreatDoorImg
import Derived.Test.YtegiffdlfpdbkaaGreatDoorImg2
import Derived.Test.YtegiffdlfpdbkaaGreatDoorNumP
import Derived.Test.YtegiffdlfpdbkaaGreatDoorApp
import Derived.Test.YtegiffdlfpdbkaaGreatDoorLiftT
import Derived.Test.YtegiffdlfpdbkaaGreatDoorShelf
import Derived.WalkKit
import Derived.WalkSpells
import Derived.WalkLawsBesides
import Derived.Lib.Hide
import Derived.Deep.DeepCutAuto
import Derived.Deep.QuietTactic
import Derived.BigQuiet
import Derived.Deep.RegionHeld3
namespace Go.Proofs.YtegiffdlfpdbkaaGreatDoor
open Go.RowKit
set_option maxRecDepth 100000
set_option linter.unusedVariables false
set_option linter.unusedSimpArgs false

/-- What strconv and bytealg hold. -/
def ReadT (w : World) : Prop := TabT w ∧ (∃ m, w.cell? ⟨2, 0, none⟩ = some (.int .i64 m)) ∧ (∃ ev, w.cell? ⟨5, 0, none⟩ = some ev ∧ (ev = .nilIface ∨ ∃ te pe, ev = .iface te pe)) ∧ (∃ ev, w.cell? ⟨6, 0, none⟩ = some ev ∧ (ev = .nilIface ∨ ∃ te pe, ev = .iface te pe))
theorem ReadT.below {w w' : World} (h : ReadT w) (hb : Below w.heap.size w w') : ReadT w' := by
  obtain ⟨h1, ⟨m, h2⟩, ⟨e1, h3, h4⟩, ⟨e2, h5, h6⟩⟩ := h
  exact ⟨h1.below hb, ⟨m, (hb.cell (World.block_lt_of_cell? w _ h2)).trans h2⟩, ⟨e1, (hb.cell (World.block_lt_of_cell? w _ h3)).trans h3, h4⟩, ⟨e2, (hb.cell (World.block_lt_of_cell? w _ h5)).trans h5, h6⟩⟩
abbrev spB : ByteArray := { data := #[32] }
def wordsB (s : ByteArray) : List ByteArray := Lib.splitB spB 0 (Lib.countB s spB) s
def splitRes (w : World) (s : ByteArray) : World := w.alloc (.cells ((wordsB s).map Value.string).toArray 9)
theorem split_any (s : ByteArray) (w : World) (hs : s.size ≤ 1048576) (h : ReadT w) :
    Calls Tryz.prog 45 #[.string s, .string spB] w fun e w' => e = .returned (.slice (some ⟨w.heap.size, 0, none⟩) (Lib.countB s spB + 1) (Lib.countB s spB + 1)) ∧ w' = splitRes w s := by
  obtain ⟨m, hm⟩ := h.2.1
  exact Tryz.strings_Split s spB m w (by omega) hm (by decide)
/-- Atoi, however it ends: what it says of the number, and whether there is an error. -/
def atoiR (b : ByteArray) (e : Ending) : Prop := match Lib.atoiAll b.data.toList with
  | .ok v => e = .returned (.tuple #[.int .i64 v, .nilIface])
  | _ => ∃ n t p, e = .returned (.tuple #[.int .i64 n, .iface t (.pointer (some p))])
theorem atoi_any (b : ByteArray) (w : World) (hs : b.size ≤ 1048576) (h : ReadT w) :
    Calls Tryz.prog 75 #[.string b] w fun e w' => atoiR b e ∧ Below w.heap.size w w' := by
  obtain ⟨_, _, ⟨e1, h3, h4⟩, ⟨e2, h5, h6⟩⟩ := h
  unfold atoiR
  rcases ha : Lib.atoiAll b.data.toList with v | _ | _
  · refine (Tryz.strconv_Atoi_ok b (by omega) v ha w).mono ?_
    rintro e w' ⟨rfl, rfl | ⟨t, rfl⟩⟩
    · exact ⟨rfl, Below.refl _ _⟩
    · exact ⟨rfl, bytes_below w _ t⟩
  · refine (Tryz.strconv_Atoi_bad b (by omega) ⟨(fun v hv => by rw [ha] at hv; cases hv), (fun hv => by rw [ha] at hv; cases hv)⟩ e1 w h3 h4).mono ?_
    rintro e w' ⟨N, rfl, _, _, hb⟩
    exact ⟨⟨_, _, _, rfl⟩, hb⟩
  · refine (Tryz.strconv_Atoi_range b (by omega) ha e2 w h5 h6).mono ?_
    rintro e w' ⟨N, rfl, _, _, hb⟩
    exact ⟨⟨_, _, _, rfl⟩, hb⟩
theorem itoa9_any (v : Int) (w : World) (h0 : -9223372036854775808 ≤ v) (h1 : v ≤ 9223372036854775807) (ht : TabT w) :
    Calls Tryz.prog 76 #[.int .i64 v] w fun e w' => e = .returned (.string (itoaS v)) ∧ Below w.heap.size w w' := by
  refine (Tryz.strconv_Itoa v (by omega) (by omega) w ht).mono ?_
  rintro e w' ⟨rfl, k, os, rfl⟩
  exact ⟨rfl, below_grow w k os⟩

theorem held_neq (t : TypeId) (p : Addr) (w : World) : (binOp .neq 50 (.iface t (.pointer (some p))) .nilIface).run Tryz.prog w = .ok (.bool true) w := by kernel_rfl
theorem held_guard (o : Nat) (t : TypeId) (p : Addr) (w : World) : (eqGuard .neq 50 (.tmp o) (.const .nilIface) (.iface t (.pointer (some p))) .nilIface).run Tryz.prog w = .ok () w := by kernel_rfl
/-- The three words of a text with two blanks. -/
theorem words3 {s : ByteArray} (h : Lib.countB s spB = 2) (h3 : (wordsB s).length = 3) : ∃ a b c, wordsB s = [a, b, c] := by
  rcases hq : wordsB s with _ | ⟨a, _ | ⟨b, _ | ⟨c, _ | ⟨d, r⟩⟩⟩⟩
  all_goals (rw [hq] at h3; simp at h3)
  exact ⟨a, b, c, rfl⟩




end Go.Proofs.YtegiffdlfpdbkaaGreatDoor
