/- strings.Builder: made in the call, written to, with its footprint. -/
import Derived.Test.YtegiffdlfpdbkaaGreatDoorRows
import Derived.Test.YtegiffdlfpdbkaaGreatDoorNum
import Derived.Test.YtegiffdlfpdbkaaGreatDoorBase
import Derived.Test.YtegiffdlfpdbkaaGreatDoorApp
import Derived.Test.YtegiffdlfpdbkaaGreatDoorFoot
import Derived.WalkKit
import Derived.WalkSpells
import Derived.WalkLawsBesides
import Derived.Lib.Hide
import Derived.Lib.Builder
import Derived.Lib.AppendStr
import Derived.Lib.UnsafeStr
import Derived.Deep.DeepCutAuto
namespace Go.Proofs.YtegiffdlfpdbkaaGreatDoor
open Go.RowKit
set_option maxRecDepth 100000
set_option linter.unusedVariables false
set_option linter.unusedSimpArgs false

/-- A builder at b, its bytes in a row from B on. -/
def BldAt (w : World) (b B : Nat) (s : List UInt8) : Prop :=
  ∃ p v, Box w b 45 #[p, v] ∧ (p = .pointer none ∨ p = .pointer (some ⟨b, 0, none⟩)) ∧ w.ownsRow B 5 1 v s.length (Lib.byteCells s) ∧ b < B
theorem BldAt.new (w : World) (B : Nat) (h : w.heap.size < B) : BldAt (w.alloc (.cells #[.pointer none, .slice none 0 0] 45)) w.heap.size B [] :=
  ⟨_, _, Box.new _ _ _, Or.inl rfl, World.ownsRow_nil _ _ _ _, h⟩
theorem BldAt.but {S : Nat → Prop} {w w' : World} {b B : Nat} {s : List UInt8} (h : BldAt w b B s) (k : But S w w') (h1 : ¬ S b) (h2 : ∀ j, B ≤ j → j < w.heap.size → ¬ S j) : BldAt w' b B s := by
  obtain ⟨p, v, a1, a2, a3, a4⟩ := h
  refine ⟨p, v, a1.but k h1, a2, ⟨a3.1, ?_⟩, a4⟩
  rcases a3.2 with hn | ⟨g, cap, cur, rfl, hb, hgg, r⟩
  · exact Or.inl hn
  · refine Or.inr ⟨g, cap, cur, rfl, hb, ?_, r⟩
    have hlt := (Array.getElem?_eq_some_iff.1 hgg).1
    exact (k.block g hlt (h2 g hb hlt)).trans hgg
theorem BldAt.below {w w' : World} {b B : Nat} {s : List UInt8} (h : BldAt w b B s) (hb : Below w.heap.size w w') : BldAt w' b B s := h.but (below_but hb (fun _ => False)) (fun h => h) (fun _ _ _ h => h)
theorem BldAt.lt {w : World} {b B : Nat} {s : List UInt8} (h : BldAt w b B s) : b < w.heap.size := by
  obtain ⟨p, v, a1, _⟩ := h
  exact a1.lt

theorem infoByteB : (Tryz.prog.info? 5).map (fun i => (i.zero, i.size, i.bytes)) = some (some (.int .u8 0), 1, 1) := by kernel_rfl
theorem infoBld : (Tryz.prog.info? 45).map (·.size) = some 2 := by kernel_rfl
theorem liesBld : liesAt Tryz.prog Tryz.prog.depth 45 (2 / Tryz.prog.cellsOf 45) 0 45 1 = true := by kernel_rfl
theorem eql_nilB (w : World) : (binOp .eql 42 (.pointer none) (.pointer none)).run Tryz.prog w = .ok (.bool true) w := by kernel_rfl
theorem eql_someB (a : Addr) (w : World) : (binOp .eql 42 (.pointer (some a)) (.pointer none)).run Tryz.prog w = .ok (.bool false) w := by kernel_rfl

set_option maxHeartbeats 1000000 in
theorem bCopyCheck_used (b : Nat) (v : Value) (w : World) (h : Box w b 45 #[.pointer (some ⟨b, 0, none⟩), v]) :
    Calls Tryz.prog 32 #[.pointer (some ⟨b, 0, none⟩)] w fun e w' => e = .returned (.tuple #[]) ∧ w' = w := by
  obtain ⟨j, hj, hjs⟩ := Option.map_eq_some_iff.1 infoBld
  have c0 : w.cell? ⟨b, 0, none⟩ = some (.pointer (some ⟨b, 0, none⟩)) := by rw [h.cell 0]; rfl
  have hne := Lib.run_neq_ptr_same (P := Tryz.prog) w (⟨b, 0, none⟩ : Addr) Tryz.underlying42 hj
  clear h hj hjs
  go_enter Tryz.func32, Tryz.ntmps32
  go_wp2
  try rw [hne]
  go_wp2
  go_end0
  exact ⟨rfl, rfl⟩

set_option maxHeartbeats 1000000 in
theorem bCopyCheck_fresh (b : Nat) (v : Value) (w : World) (h : Box w b 45 #[.pointer none, v]) :
    Calls Tryz.prog 32 #[.pointer (some ⟨b, 0, none⟩)] w fun e w' => e = .returned (.tuple #[]) ∧ w' = w.setCell ⟨b, 0, none⟩ (.pointer (some ⟨b, 0, none⟩)) := by
  obtain ⟨j, hj, hjs⟩ := Option.map_eq_some_iff.1 infoBld
  have cB := h.cell
  have lB := h.lt
  have fB := h.frozen
  have hsh : w.shape? b = some (45, 2) := by have h1 : w.heap[b]? = _ := h; simp [World.shape?, h1]
  have hto := Lib.run_to_unsafe (P := Tryz.prog) w ⟨b, 0, none⟩ Tryz.underlying42 Tryz.underlying89 hj (by rw [hjs]; decide) hsh (Nat.zero_lt_succ 1)
  have hfrom := Lib.run_from_unsafe (P := Tryz.prog) w ⟨b, 0, none⟩ Tryz.underlying89 Tryz.underlying42 hj hsh liesBld
  have hex := @run_callFunc_extern Tryz.prog 44 _ Extern.AbiNoEscape.same Tryz.func44 (by kernel_rfl) (by kernel_rfl) (by kernel_rfl) (by kernel_rfl)
  have hno := fun x => Lib.run_noEscape (P := Tryz.prog) w x
  have hne := fun w => Lib.run_neq_ptr_same (P := Tryz.prog) w (⟨b, 0, none⟩ : Addr) Tryz.underlying42 hj
  clear hsh hj hjs h
  go_enter Tryz.func32, Tryz.ntmps32
  go_wp2
  go_end0
  exact ⟨rfl, rfl⟩

theorem bCopyCheck_any (b : Nat) (p v : Value) (w : World) (h : Box w b 45 #[p, v]) (hp : p = .pointer none ∨ p = .pointer (some ⟨b, 0, none⟩)) :
    Calls Tryz.prog 32 #[.pointer (some ⟨b, 0, none⟩)] w fun e w' => e = .returned (.tuple #[]) ∧ Box w' b 45 #[.pointer (some ⟨b, 0, none⟩), v] ∧ But (fun k => k = b) w w' := by
  rcases hp with rfl | rfl
  · refine (bCopyCheck_fresh b v w h).mono ?_
    rintro e w' ⟨rfl, rfl⟩
    exact ⟨rfl, h.set_ 0 _, (But.refl (fun k => k = b) w).setCell (p := ⟨b, 0, none⟩) (Or.inl rfl) _⟩
  · refine (bCopyCheck_used b v w h).mono ?_
    rintro e w' ⟨rfl, rfl⟩
    exact ⟨rfl, h, But.refl _ _⟩

set_option maxHeartbeats 2000000 in
theorem bWrite_any (b B : Nat) (s : List UInt8) (x : ByteArray) (w : World) (h : BldAt w b B s) (hl : s.length + x.size ≤ 140737488355328) (hB : B ≤ w.heap.size) :
    Calls Tryz.prog 12 #[.pointer (some ⟨b, 0, none⟩), .string x] w fun e w' => e = .returned (.tuple #[.int .i64 x.size, .nilIface]) ∧ BldAt w' b B (s ++ x.data.toList) ∧ But (fun k => k = b ∨ B ≤ k) w w' := by
  obtain ⟨i0, hi, hz0, hz1, hz2⟩ := info_parts infoByteB
  obtain ⟨p, v, hb, hp, hown, hbB⟩ := h
  have HC := Lib.hid (bCopyCheck_any b p v w hb hp)
  have HOW := Lib.hid hown
  clear hb hp hown
  go_enter Tryz.func12, Tryz.ntmps12
  go_wp2_with fail
  refine HC.out.mono ?_
  rintro e w1 ⟨rfl, hb1, hk1⟩
  have hown1 : w1.ownsRow B 5 1 v s.length (Lib.byteCells s) := by
    refine ⟨HOW.out.1, ?_⟩
    rcases HOW.out.2 with hn | ⟨g, cap, cur, rfl, hg, hgg, r⟩
    · exact Or.inl hn
    · exact Or.inr ⟨g, cap, cur, rfl, hg, (hk1.block g (Array.getElem?_eq_some_iff.1 hgg).1 (by omega)).trans hgg, r⟩
  have HO1 := Lib.hid hown1
  have HK1 := Lib.hid hk1
  have hs1 := hk1.size
  have HB1 := Lib.hid hb1
  have cB := hb1.cell
  have lB := hb1.lt
  clear hown1 hk1 hb1
  go_wp2_with (at_builtin; refine Lib.wpList_append_own_string _ rfl _ _ 43 9 rfl B 5 i0 Tryz.underlying43 Tryz.underlying9 hi hz0 hz1 hz2 _ _ _ rfl HO1.out x rfl ?c3 ?c4 ?c5 ?_)
  case c3 => unfold maxLen; omega
  case c4 => omega
  case c5 => omega
  intro v' w2 hown' hgrow _
  have hvb : v.ownBlock ≠ some b := fun e => by
    rcases HO1.out.2 with ⟨rfl, _⟩ | ⟨g, cap, cur, rfl, hg, _⟩
    · cases e
    · have e2 : g = b := by injection e
      omega
  have hk2 : But (fun k => k = b ∨ B ≤ k) w1 w2 := ⟨hgrow.os, hgrow.tape, hgrow.output, hgrow.size, fun k hk hn => hgrow.block k hk (fun e => by
    rcases HO1.out.2 with ⟨rfl, _⟩ | ⟨g, cap, cur, rfl, hg, _⟩
    · cases e
    · have e2 : k = g := by injection e
      exact hn (Or.inr (by omega)))⟩
  have hb2 : Box w2 b 45 #[.pointer (some ⟨b, 0, none⟩), v] := (hgrow.block b HB1.out.lt (fun e => hvb e.symm)).trans HB1.out
  have HB2 := Lib.hid hb2
  have HK2 := Lib.hid hk2
  have cB2 := hb2.cell
  have lB2 := hb2.lt
  have fB2 := hb2.frozen
  have HOV := Lib.hid hown'
  obtain ⟨ao, n', cap, rfl⟩ : ∃ ao n' cap, v' = .slice ao n' cap := by
    rcases hown'.2 with ⟨hv, _⟩ | ⟨g, cap, cur, hv, _⟩
    · exact ⟨_, _, _, hv⟩
    · exact ⟨_, _, _, hv⟩
  clear cB lB hgrow hown' hk2 hb2
  go_wp2_with fail
  go_ret2
  have hb3 := HB2.out.set_ 1 (.slice ao n' cap)
  refine ⟨rfl, ⟨_, _, hb3, Or.inr rfl, ?_, hbB⟩, ?_⟩
  · have e1 : (s ++ x.data.toList).length = s.length + x.size := by rw [List.length_append]; simp
    have e2 : Lib.byteCells (s ++ x.data.toList) = Lib.byteCells s ++ Lib.strCells x := by unfold Lib.byteCells Lib.strCells; rw [List.map_append]
    rw [e1, e2]
    refine ⟨HOV.out.1, ?_⟩
    rcases HOV.out.2 with hn | ⟨g, cap', cur, hv, hg, hgg, r⟩
    · exact Or.inl hn
    · exact Or.inr ⟨g, cap', cur, hv, hg, (Below.heap_setCell _ _ _ _ (by show g ≠ b; omega)).trans hgg, r⟩
  · exact ((HK1.out.mono (S' := fun k => k = b ∨ B ≤ k) (fun _ _ h => Or.inl h)).trans HK2.out (fun _ _ h => h)).setCell (p := ⟨b, 1, none⟩) (Or.inl (Or.inl rfl)) _

theorem freeze_but (w : World) (g n : Nat) : But (fun k => k = g) w (w.freeze ⟨g, 0, none⟩ n) := by
  unfold World.freeze
  split
  · exact But.refl _ w
  · exact ⟨rfl, rfl, rfl, by simp, fun k hk hn => by
      simp only [Array.getElem?_modify]
      rw [if_neg (fun e => hn e.symm)]⟩
set_option maxHeartbeats 2000000 in
theorem bString_any (b B : Nat) (l : List UInt8) (w : World) (h : BldAt w b B l) (h0 : l ≠ []) :
    Calls Tryz.prog 15 #[.pointer (some ⟨b, 0, none⟩)] w fun e w' => e = .returned (.string ⟨l.toArray⟩) ∧ But (fun k => B ≤ k) w w' := by
  obtain ⟨p, v, hbx, _, hown, hbB⟩ := h
  have hl0 : l.length ≠ 0 := by simpa using h0
  obtain ⟨g, cap, cur, rfl, hbg, hg, hnc, hcm, hcs, htake⟩ : ∃ g cap cur, v = .slice (some ⟨g, 0, none⟩) l.length cap ∧ B ≤ g ∧ w.heap[g]? = some (.cells cur 5 (0, 0)) ∧ l.length ≤ cap ∧ cap ≤ maxLen ∧ cur.size = cap * 1 ∧ cur.toList.take (l.length * 1) = Lib.byteCells l := by
    rcases hown.2 with ⟨_, hz⟩ | ⟨g, cap, cur, hv, r⟩
    · exact absurd hz hl0
    · exact ⟨g, cap, cur, hv, r⟩
  have c1 : w.drew.cell? ⟨b, 1, none⟩ = some (.slice (some ⟨g, 0, none⟩) l.length cap) := by
    rw [show w.drew.cell? ⟨b, 1, none⟩ = w.cell? ⟨b, 1, none⟩ from rfl, hbx.cell 1]; rfl
  have hSD : (Builtin.unsafeSliceData_ #[43] 83 #[.slice (some ⟨g, 0, none⟩) l.length cap]).run Tryz.prog w.drew = .ok (.pointer (some ⟨g, 0, none⟩)) w.drew :=
    Lib.run_unsafeSliceData_row _ _ _ _ _ _ (by omega)
  have hUS : (Builtin.unsafeString_ #[83, 3] 9 #[.pointer (some ⟨g, 0, none⟩), .int .i64 l.length]).run Tryz.prog w.drew = .ok (.string ⟨l.toArray⟩) (w.drew.freeze ⟨g, 0, none⟩ l.length) := by
    refine Lib.run_unsafeString_row w.drew 83 3 9 5 Tryz.underlying83 (by kernel_rfl) g cur.size (by have hg' : w.drew.heap[g]? = some (.cells cur 5 (0, 0)) := hg; simp [World.shape?, hg']) l h0 (by omega) (by unfold maxLen at hcm; omega) ?_
    intro j x hx
    have := hown.cells (g := g) rfl j (.int .u8 x.toNat) (by simp [Lib.byteCells, hx])
    exact this
  have HF := Lib.hid (((But.refl (fun k => B ≤ k) w).drew).trans ((freeze_but w.drew g l.length).mono (S' := fun k => B ≤ k) (fun k _ e => by subst e; exact hbg)) (fun _ _ h => h))
  clear hbx hown hg hnc hcm hcs htake h0 hl0
  go_enter Tryz.func15, Tryz.ntmps15
  go_wp2
  go_region
  all_goals (go_wp2; go_ret; exact ⟨rfl, HF.out⟩)

theorem bString_nil (b : Nat) (p : Value) (w : World) (h : Box w b 45 #[p, .slice none 0 0]) :
    Calls Tryz.prog 15 #[.pointer (some ⟨b, 0, none⟩)] w fun e w' => e = .returned (.string ⟨#[]⟩) ∧ But (fun _ => False) w w' := by
  have c1 : w.drew.cell? ⟨b, 1, none⟩ = some (.slice none 0 0) := by
    rw [show w.drew.cell? ⟨b, 1, none⟩ = w.cell? ⟨b, 1, none⟩ from rfl, h.cell 1]; rfl
  have hSD : (Builtin.unsafeSliceData_ #[43] 83 #[.slice none 0 0]).run Tryz.prog w.drew = .ok (.pointer none) w.drew := rfl
  have hUS : ∀ (W : World) (q : Option Addr), (Builtin.unsafeString_ #[83, 3] 9 #[.pointer q, .int .i64 0]).run Tryz.prog W = .ok (.string .empty) W := fun W q => Lib.run_unsafeString_none W _ _ _ q
  clear h
  go_enter Tryz.func15, Tryz.ntmps15
  go_wp2
  go_region
  all_goals (go_wp2; go_ret; exact ⟨rfl, (But.refl _ w).drew⟩)

end Go.Proofs.YtegiffdlfpdbkaaGreatDoor
