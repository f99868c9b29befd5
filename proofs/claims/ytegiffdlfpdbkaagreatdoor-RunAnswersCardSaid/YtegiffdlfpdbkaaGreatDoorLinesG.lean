/- strings.Lines over any text: each line with its end, the last one maybe without. -/
import Derived.Test.YtegiffdlfpdbkaaGreatDoorRows
import Derived.Test.YtegiffdlfpdbkaaGreatDoorNum
import Derived.Test.YtegiffdlfpdbkaaGreatDoorBase
import Derived.Test.YtegiffdlfpdbkaaGreatDoorFoot
import Derived.Test.YtegiffdlfpdbkaaGreatDoorWordsA
import Derived.Test.YtegiffdlfpdbkaaGreatDoorLines
import Derived.Test.YtegiffdlfpdbkaaGreatDoorShelf
import Derived.RangeFuncNested
import Derived.RangeFuncBound
import Derived.RangeFuncCalls
import Derived.RangeFuncLeaves
import Derived.Shelf.Abstract
import Derived.Lib.Split
import Derived.Lib.IndexBytes
import Derived.Shelf.RegionOpen
import Derived.WalkKit
import Derived.OwnWalkIn
import Derived.TacticsInMore
import Derived.LoopNIn
import Derived.LoopIn
import Derived.ControlIn
import Derived.Lib.Hide
namespace Go.Proofs.YtegiffdlfpdbkaaGreatDoor
open Go.RowKit Go.Shelf
set_option maxRecDepth 100000
set_option linter.unusedVariables false
set_option linter.unusedSimpArgs false
attribute [local go_sem] Oper.semAt_some

/-- Lines, each with its end; the last one maybe without. -/
def Lined (ls : List ByteArray) : Prop := ∀ pre x rest, ls = pre ++ x :: rest → LineIs x ∨ (rest = [] ∧ 1 ≤ x.size ∧ ∀ c ∈ x.data.toList, c ≠ 10)
theorem index_none : ∀ (y : List UInt8), (∀ c ∈ y, c ≠ 10) → Lib.indexByte y 10 = -1
  | [], _ => rfl
  | x :: y, h => by
    have hx : x ≠ 10 := h x (by simp)
    have ih := index_none y (fun z hz => h z (by simp [hz]))
    rw [Lib.indexByte, if_neg (by simpa using hx), ih]
    rfl

set_option maxHeartbeats 1000000 in
theorem linesItG (n : Nat) (hn : 1 ≤ n) (l sb : Nat) (J : List ByteArray → World → Prop) (ls : List ByteArray)
    (hJ : ∀ pre W W', J pre W → But (fun k => k = sb) W W' → J pre W')
    (hY : ∀ pre x rest W, ls = pre ++ x :: rest → J pre W → YieldAt Fence.wide (n - 1) Tryz.prog l #[.string x] W fun e W' => e = .returned (.bool true) ∧ J (pre ++ [x]) W' ∧ (∀ cs, Box W sb 9 cs → Box W' sb 9 cs))
    (s : ByteArray) (hs : s.data.toList = flatB ls) (hsz : s.size ≤ 1048576) (hl : Lined ls) (W : World) (hB : Box W sb 9 #[.string s]) (h0 : J [] W) :
    CallsIn Fence.wide n Tryz.prog 30 #[.func (.yield l) #[] #[], .pointer (some ⟨sb, 0, none⟩)] W fun e W' => (∃ v, e = .returned v) ∧ J ls W' := by
  have HJ := Lib.hid hJ
  have HY := Lib.hid hY
  have HL := Lib.hid hl
  clear hJ hY hl
  refine callsIn_of_wp Tryz.func30 rfl trivial ?_ rfl
  simp only [Tryz.ntmps30, List.size_toArray, List.length_cons, List.length_nil, Nat.reduceAdd, Nat.reduceSub, Array.replicate_succ, Array.replicate_zero, List.push_toArray, List.append_toArray, List.nil_append, List.cons_append]
  gi_wp2
  gi_loopw [3, 4] (fun p q wr => ∃ (pre rest : List ByteArray) (s' : ByteArray), ls = pre ++ rest ∧ Hid (s'.data.toList = flatB rest) ∧ s'.size ≤ 1048576 ∧ Hid (Box wr sb 9 #[.string s']) ∧ Hid (J pre wr))
    (fun p q wr => leftS sb wr)
  case atStart => exact ⟨[], ls, s, rfl, Lib.hid hs, hsz, Lib.hid hB, Lib.hid h0⟩
  case round =>
    obtain ⟨pre, rest, s', hx, HS, hz, HB, HJ1⟩ := hrel
    cases rest with
    | nil =>
      have h00 : s'.size = 0 := no_line HS.out
      have cB := HB.out.cell
      have lB := HB.out.lt
      gi_wp2
      go_end0
      exact ⟨⟨_, rfl⟩, by rw [hx, List.append_nil]; exact HJ1.out⟩
    | cons x rest =>
      rcases HL.out pre x rest hx with hline | hlast
      · skip
        obtain ⟨z1, z2, z3, z4, z5⟩ := first_line HS.out hline
        obtain ⟨k, hk⟩ : ∃ k, x.size = k + 1 := ⟨x.size - 1, by omega⟩
        rw [hk] at z2 z3 z4 z5
        have cB := HB.out.cell
        have lB := HB.out.lt
        have fB := HB.out.frozen
        have z6 : 0 < s'.size := by omega
        have HZ : Hid (Lib.indexByte s'.data.toList 10 = (k : Int)) := Lib.hid (by rw [z3]; omega)
        have HZ4 := Lib.hid z4
        have HZ5 := Lib.hid z5
        have HK := Lib.hid hk
        clear z1 z3 z4 z5 hk
        gi_wp2_with (refine ⟨trivial, ?_⟩; gi_at_call 31; refine (callsIn_wide.2 (Tryz.strings_IndexByte _ _ _)).mono ?_; rintro e w' ⟨rfl, rfl⟩; rw [show Lib.indexByte s'.data.toList (Int.toNat 10).toUInt8 = (k : Int) from HZ.out])
        gi_region
        have hb2 : Box (w'.setCell ⟨sb, 0, none⟩ (.string (s'.extract (k + 1) s'.size))).drew sb 9 #[.string (s'.extract (k + 1) s'.size)] := Box.drew_ (HB.out.set_ 0 (.string (s'.extract (k + 1) s'.size)))
        have hJ2 := HJ.out pre w' (w'.setCell ⟨sb, 0, none⟩ (.string (s'.extract (k + 1) s'.size))).drew HJ1.out (((But.refl (fun k => k = sb) w').setCell (p := ⟨sb, 0, none⟩) (Or.inl rfl) _).drew)
        obtain ⟨fn, tmps, assign, body, hy, hR⟩ := HY.out pre x rest _ hx hJ2
        have hy2 : (Instr.yield l #[.string (s'.extract 0 (k + 1))]).run Tryz.prog (w'.setCell ⟨sb, 0, none⟩ (.string (s'.extract (k + 1) s'.size))).drew = .ok (.round l fn tmps assign body) (w'.setCell ⟨sb, 0, none⟩ (.string (s'.extract (k + 1) s'.size))).drew := by rw [HZ4.out]; exact hy
        clear hy hJ2
        gi_wp2
        refine hR.mono ?_
        rintro e W3 ⟨rfl, hJ3, hb3⟩
        have HB3 := Lib.hid (hb3 _ hb2)
        have HJ3 := Lib.hid hJ3
        have hm : leftS sb W3 < leftS sb w' := by
          rw [leftS_box HB3.out, leftS_box HB.out, ByteArray.size_extract]; omega
        have hz3 : (s'.extract (k + 1) s'.size).size ≤ 1048576 := by rw [ByteArray.size_extract]; omega
        clear hb3 hJ3 hb2 cB lB fB
        gi_wp2
        go_roundw
        case rel => exact ⟨pre ++ [x], rest, _, by rw [hx, List.append_assoc]; rfl, HZ5, hz3, HB3, HJ3⟩
        case measure => exact hm
      · obtain ⟨rfl, x1, xn⟩ := hlast
        have hsx : s' = x := bytes_ext (by rw [HS.out, flatB_cons]; simp [flatB])
        subst hsx
        have cB := HB.out.cell
        have lB := HB.out.lt
        have fB := HB.out.frozen
        have z6 : 0 < s'.size := by omega
        have HZ : Hid (Lib.indexByte s'.data.toList 10 = -1) := Lib.hid (index_none _ xn)
        clear xn x1
        gi_wp2_with (refine ⟨trivial, ?_⟩; gi_at_call 31; refine (callsIn_wide.2 (Tryz.strings_IndexByte _ _ _)).mono ?_; rintro e w' ⟨rfl, rfl⟩; rw [show Lib.indexByte s'.data.toList (Int.toNat 10).toUInt8 = -1 from HZ.out])
        have hb2 : Box (w'.setCell ⟨sb, 0, none⟩ (.string { data := #[] })) sb 9 #[.string { data := #[] }] := HB.out.set_ 0 (.string { data := #[] })
        have hJ2 := HJ.out pre w' (w'.setCell ⟨sb, 0, none⟩ (.string { data := #[] })) HJ1.out (((But.refl (fun k => k = sb) w').setCell (p := ⟨sb, 0, none⟩) (Or.inl rfl) _))
        obtain ⟨fn, tmps, assign, body, hy, hR⟩ := HY.out pre s' [] _ hx hJ2
        have hy2 : (Instr.yield l #[.string s']).run Tryz.prog (w'.setCell ⟨sb, 0, none⟩ (.string { data := #[] })) = .ok (.round l fn tmps assign body) (w'.setCell ⟨sb, 0, none⟩ (.string { data := #[] })) := hy
        clear hy hJ2
        rw [hy2]
        gi_wp2
        refine hR.mono ?_
        rintro e W3 ⟨rfl, hJ3, hb3⟩
        have HB3 := Lib.hid (hb3 _ hb2)
        have HJ3 := Lib.hid hJ3
        have hm : leftS sb W3 < leftS sb w' := by
          rw [leftS_box HB3.out, leftS_box HB.out]; exact z6
        clear hb3 hJ3 hb2 cB lB fB
        gi_wp2
        go_roundw
        case rel => exact ⟨pre ++ [s'], [], { data := #[] }, by rw [hx, List.append_assoc]; rfl, Lib.hid rfl, by decide, HB3, HJ3⟩
        case measure => exact hm

end Go.Proofs.YtegiffdlfpdbkaaGreatDoor
