/- run: a line of a session. -/
import Derived.Test.YtegiffdlfpdbkaaGreatDoorRows
import Derived.Test.YtegiffdlfpdbkaaGreatDoorNum
import Derived.Test.YtegiffdlfpdbkaaGreatDoorBase
import Derived.Test.YtegiffdlfpdbkaaGreatDoorApp
import Derived.Test.YtegiffdlfpdbkaaGreatDoorFoot
import Derived.Test.YtegiffdlfpdbkaaGreatDoorImg
import Derived.Test.YtegiffdlfpdbkaaGreatDoorCount
import Derived.Test.YtegiffdlfpdbkaaGreatDoorCntP
import Derived.Test.YtegiffdlfpdbkaaGreatDoorCntC
import Derived.Test.YtegiffdlfpdbkaaGreatDoorNumP
import Derived.Test.YtegiffdlfpdbkaaGreatDoorParse
import Derived.Test.YtegiffdlfpdbkaaGreatDoorRefCut
import Derived.Test.YtegiffdlfpdbkaaGreatDoorRefNum
import Derived.Test.YtegiffdlfpdbkaaGreatDoorRunP
import Derived.Test.YtegiffdlfpdbkaaGreatDoorRunL
import Derived.Test.YtegiffdlfpdbkaaGreatDoorRunS
import Derived.Test.YtegiffdlfpdbkaaGreatDoorRun1
import Derived.Test.YtegiffdlfpdbkaaGreatDoorRun2
import Derived.Test.YtegiffdlfpdbkaaGreatDoorRun3
import Derived.Test.YtegiffdlfpdbkaaGreatDoorRun4
import Derived.Test.YtegiffdlfpdbkaaGreatDoorRun5
import Derived.Test.YtegiffdlfpdbkaaGreatDoorRun6
import Derived.Test.YtegiffdlfpdbkaaGreatDoorLiftT
import Derived.WalkKit
import Derived.WalkSpells
import Derived.WalkLawsBesides
import Derived.Lib.Hide
import Derived.BigQuiet
import Derived.Deep.QuietTactic
import Derived.Deep.RegionHeld3
import Derived.Deep.DeepCutAuto
import Derived.Maps.OwnSet
import Derived.Maps.OwnOps
import Derived.Maps.Views
import Derived.OwnWalk
import Derived.StringKeys
namespace Go.Proofs.YtegiffdlfpdbkaaGreatDoor
open Go.RowKit Go.Maps Go.WideMaps
set_option maxRecDepth 100000
set_option linter.unusedVariables false
set_option linter.unusedSimpArgs false

/-- A word with numbers. -/
theorem plain_any (w : World) (g b N : Nat) (d : Dsk) (w0 : ByteArray) (A : Option Addr) (c : Nat) (ns : List Int) (h : DeskAt w g b N d) (hA : IntsAt w A ns) (hab : ∀ a, A = some a → a.block ≠ g) (h0 : ∀ i, 0 ≤ ns.getD i 0)
    (hw : (ns.length : Int) = wantN w0) (hn : isNamed w0 = false) (ht : ∀ w', But (fun k => k = g ∨ k = b) w w' → TabT w') :
    Calls Tryz.prog 48 #[.pointer (some ⟨g, 0, none⟩), .string w0, .slice A ns.length c] w (WordPost w g b N (plainR d w0 ns)) := by
  have ht0 := ht w (But.refl _ _)
  have two : ∀ {l : List Int}, l.length = 2 → ∃ x y, l = [x, y] := fun {l} h => by
    match l, h with
    | [x, y], _ => exact ⟨x, y, rfl⟩
  have one : ∀ {l : List Int}, l.length = 1 → ∃ x, l = [x] := fun {l} h => by
    match l, h with
    | [x], _ => exact ⟨x, rfl⟩
  by_cases e1 : w0 = wExtend
  · subst e1
    obtain ⟨x, y, rfl⟩ := two (l := ns) (by have : wantN wExtend = 2 := by decide
                                            omega)
    exact dExt_any w g b N d A c x y h hA hab (h0 0) ht
  by_cases e2 : w0 = wDigest
  · subst e2
    obtain ⟨x, rfl⟩ := one (l := ns) (by have : wantN wDigest = 1 := by decide
                                         omega)
    exact dDig_any w g b N d A c x h hA ht0
  by_cases e3 : w0 = wPublic
  · subst e3
    obtain ⟨x, rfl⟩ := one (l := ns) (by have : wantN wPublic = 1 := by decide
                                         omega)
    exact dPublic_any w g b N d A c x h hA ht0
  by_cases e4 : w0 = wSign
  · subst e4
    exact dSign_any w g b N d A c ns (by have : wantN wSign = 3 := by decide
                                         omega) h hA ht0
  by_cases e5 : w0 = wCheck
  · subst e5
    have h4 : ns.length = 4 := by have : wantN wCheck = 4 := by decide
                                  omega
    obtain ⟨q, m, p, a, rfl⟩ : ∃ q m p a, ns = [q, m, p, a] := by
      match ns, h4 with
      | [q, m, p, a], _ => exact ⟨q, m, p, a, rfl⟩
    exact dCheck_any w g b N d A c q m p a h hA
  exfalso
  unfold isNamed at hn
  simp only [Bool.or_eq_false_iff, decide_eq_false_iff_not] at hn
  obtain ⟨n1, n2, n3⟩ := hn
  have : wantN w0 = -1 := by unfold wantN; rw [if_neg e1, if_neg e2, if_neg n1, if_neg n2, if_neg n3, if_neg e3, if_neg e4, if_neg e5]
  omega

/-- A word with a name. -/
theorem named_any (w : World) (g b N : Nat) (d : Dsk) (w0 nm : ByteArray) (A : Option Addr) (c : Nat) (ns : List Int) (h : DeskAt w g b N d) (hA : IntsAt w A ns) (hab : ∀ a, A = some a → a.block ≠ b) (hz : nm.size ≤ 3000) (hN : N ≤ 900000)
    (hw : (ns.length : Int) + 1 = wantN w0) (hn : isNamed w0 = true) (ht : TabT w) :
    Calls Tryz.prog 49 #[.pointer (some ⟨g, 0, none⟩), .string w0, .string nm, .slice A ns.length c] w (WordPost w g b N (namedR d w0 nm ns)) := by
  have one : ∀ {l : List Int}, l.length = 1 → ∃ x, l = [x] := fun {l} h => by
    match l, h with
    | [x], _ => exact ⟨x, rfl⟩
  by_cases e1 : w0 = wMeasure
  · subst e1
    have h0 : ns.length = 0 := by have : wantN wMeasure = 1 := by decide
                                  omega
    obtain rfl : ns = [] := List.eq_nil_of_length_eq_zero h0
    exact dMeas_any w g b N d nm A c h (by omega) ht
  by_cases e2 : w0 = wRaise
  · subst e2
    obtain ⟨x, rfl⟩ := one (l := ns) (by have : wantN wRaise = 2 := by decide
                                         omega)
    exact dRaise_any w g b N d nm A c x h hA hab (by omega) hN
  by_cases e3 : w0 = wMay
  · subst e3
    obtain ⟨x, rfl⟩ := one (l := ns) (by have : wantN wMay = 2 := by decide
                                         omega)
    exact dMay_any w g b N d nm A c x h hA (by omega)
  exfalso
  unfold isNamed at hn
  rw [decide_eq_false e1, decide_eq_false e2, decide_eq_false e3] at hn
  cases hn

end Go.Proofs.YtegiffdlfpdbkaaGreatDoor
