/-
  No cell of these rows narrows 'for every input' (looked for: loops, veiled, ifaces, maps, wideKeys, modest, calm, conditions, laid).
  DERIVED. THE GIVEN ROWS OF THIS SEAT. 12 by the template 'for every input the law returns true; each argument reads behind the call as it read before'; 0 by the template 'total and deterministic' (their statements: YtfklbifgjpocnaaTotals.lean).
  GIVEN WITH THE SEED: the statements are not yours to turn. If you find one false, say at which input.
  Laid BY PROGRAM, IN A SANDBOX (cutbox-rows.mjs): the forced cells as the released guide's own fill.sh prints them over the translation 462d57ccaa165392… (all of the seat's roots in one cut). By AI agents, Wed Nov 11 2026. No macro, syntax, notation, axiom, sorry.
-/
import Derived.Test.YtfklbifgjpocnaaChecked
import GoSem.Claim
import GoSem.ClaimJoined
import GoSem.ClaimMapViews
import Derived.JoinedTies
import Derived.KernelRfl
namespace Go.Proofs.Ytfklbifgjpocnaa
/- THE CELL 'sum', in the pinned program and in every row, IS THE sha256 OF THE DUMP (.gsa) THAT YtfklbifgjpocnaaProg.lean LOADS. Nothing in Lean hashes anything: it is a label: what it is worth is what the hold of that sum in a sandbox is worth. -/
noncomputable def Try.pinned : Pinned := { name := "ytfklbifgjpocnaa", sum := "462d57ccaa165392c18ebe691a134f332ba1e66c9981b828c739f3e28c35fd28", checked := Try.checked }
namespace Rows
def none {H : Type} : Left H := { results := [], args := [] }

/-- 'stairlaw4.KeyOrder': WHATEVER THE INPUT: true; the input reads as it did. -/
def keyOrderSpec : ChangeSpec := { name := "keyOrder", fn := fun _ => fun
  | [d1, d2] => { results := [.lit (.bool true)], args := [d1, d2] }
  | _ => none }
def keyOrderRow : OpenClaim := { program := "ytfklbifgjpocnaa", sum := "462d57ccaa165392c18ebe691a134f332ba1e66c9981b828c739f3e28c35fd28", func := "bootstair/stairlaw4.KeyOrder", spec := "keyOrder", apart := false }
def KeyOrderSaid : Prop := keyOrderRow.holds Try.pinned (OpenSpec.ofChange keyOrderSpec)

/-- ITS FALSE NEIGHBOUR: 'it returns false'. Refute it at one input. -/
def keyOrderWrong : ChangeSpec := { name := "keyOrder", fn := fun _ => fun
  | [d1, d2] => { results := [.lit (.bool false)], args := [d1, d2] }
  | _ => none }
def KeyOrderWrongFalsely : Prop := keyOrderRow.holds Try.pinned (OpenSpec.ofChange keyOrderWrong)

/-- 'stairlaw1.Names': WHATEVER THE INPUT: true; the input reads as it did. -/
def namesSpec : ChangeSpec := { name := "names", fn := fun _ => fun
  | [] => { results := [.lit (.bool true)], args := [] }
  | _ => none }
def namesRow : OpenClaim := { program := "ytfklbifgjpocnaa", sum := "462d57ccaa165392c18ebe691a134f332ba1e66c9981b828c739f3e28c35fd28", func := "bootstair/stairlaw1.Names", spec := "names", apart := false }
def NamesSaid : Prop := namesRow.holds Try.pinned (OpenSpec.ofChange namesSpec)

/-- ITS FALSE NEIGHBOUR: 'it returns false'. Refute it at one input. -/
def namesWrong : ChangeSpec := { name := "names", fn := fun _ => fun
  | [] => { results := [.lit (.bool false)], args := [] }
  | _ => none }
def NamesWrongFalsely : Prop := namesRow.holds Try.pinned (OpenSpec.ofChange namesWrong)

/-- 'stairlaw4.MeasureNone': WHATEVER THE INPUT: true; the input reads as it did. -/
def measureNoneSpec : ChangeSpec := { name := "measureNone", fn := fun _ => fun
  | [d] => { results := [.lit (.bool true)], args := [d] }
  | _ => none }
def measureNoneRow : OpenClaim := { program := "ytfklbifgjpocnaa", sum := "462d57ccaa165392c18ebe691a134f332ba1e66c9981b828c739f3e28c35fd28", func := "bootstair/stairlaw4.MeasureNone", spec := "measureNone", apart := false }
def MeasureNoneSaid : Prop := measureNoneRow.holds Try.pinned (OpenSpec.ofChange measureNoneSpec)

/-- ITS FALSE NEIGHBOUR: 'it returns false'. Refute it at one input. -/
def measureNoneWrong : ChangeSpec := { name := "measureNone", fn := fun _ => fun
  | [d] => { results := [.lit (.bool false)], args := [d] }
  | _ => none }
def MeasureNoneWrongFalsely : Prop := measureNoneRow.holds Try.pinned (OpenSpec.ofChange measureNoneWrong)

/-- 'stairlaw1.MeasureGoes': WHATEVER THE INPUT: true; the input reads as it did. -/
def measureGoesSpec : ChangeSpec := { name := "measureGoes", fn := fun _ => fun
  | [d1, d2, d3, d4, d5, d6] => { results := [.lit (.bool true)], args := [d1, d2, d3, d4, d5, d6] }
  | _ => none }
def measureGoesRow : OpenClaim := { program := "ytfklbifgjpocnaa", sum := "462d57ccaa165392c18ebe691a134f332ba1e66c9981b828c739f3e28c35fd28", func := "bootstair/stairlaw1.MeasureGoes", spec := "measureGoes", apart := false }
def MeasureGoesSaid : Prop := measureGoesRow.holds Try.pinned (OpenSpec.ofChange measureGoesSpec)

/-- ITS FALSE NEIGHBOUR: 'it returns false'. Refute it at one input. -/
def measureGoesWrong : ChangeSpec := { name := "measureGoes", fn := fun _ => fun
  | [d1, d2, d3, d4, d5, d6] => { results := [.lit (.bool false)], args := [d1, d2, d3, d4, d5, d6] }
  | _ => none }
def MeasureGoesWrongFalsely : Prop := measureGoesRow.holds Try.pinned (OpenSpec.ofChange measureGoesWrong)

/-- 'stairlaw1.KeySeals': WHATEVER THE INPUT: true; the input reads as it did. -/
def keySealsSpec : ChangeSpec := { name := "keySeals", fn := fun _ => fun
  | [d1, d2, d3, d4, d5] => { results := [.lit (.bool true)], args := [d1, d2, d3, d4, d5] }
  | _ => none }
def keySealsRow : OpenClaim := { program := "ytfklbifgjpocnaa", sum := "462d57ccaa165392c18ebe691a134f332ba1e66c9981b828c739f3e28c35fd28", func := "bootstair/stairlaw1.KeySeals", spec := "keySeals", apart := false }
def KeySealsSaid : Prop := keySealsRow.holds Try.pinned (OpenSpec.ofChange keySealsSpec)

/-- ITS FALSE NEIGHBOUR: 'it returns false'. Refute it at one input. -/
def keySealsWrong : ChangeSpec := { name := "keySeals", fn := fun _ => fun
  | [d1, d2, d3, d4, d5] => { results := [.lit (.bool false)], args := [d1, d2, d3, d4, d5] }
  | _ => none }
def KeySealsWrongFalsely : Prop := keySealsRow.holds Try.pinned (OpenSpec.ofChange keySealsWrong)

/-- 'stairlaw2.EventOrder': WHATEVER THE INPUT: true; the input reads as it did. -/
def eventOrderSpec : ChangeSpec := { name := "eventOrder", fn := fun _ => fun
  | [d1, d2, d3] => { results := [.lit (.bool true)], args := [d1, d2, d3] }
  | _ => none }
def eventOrderRow : OpenClaim := { program := "ytfklbifgjpocnaa", sum := "462d57ccaa165392c18ebe691a134f332ba1e66c9981b828c739f3e28c35fd28", func := "bootstair/stairlaw2.EventOrder", spec := "eventOrder", unfollowed := true, recurses := true, apart := false }
def EventOrderSaid : Prop := eventOrderRow.holds Try.pinned (OpenSpec.ofChange eventOrderSpec)

/-- ITS FALSE NEIGHBOUR: 'it returns false'. Refute it at one input. -/
def eventOrderWrong : ChangeSpec := { name := "eventOrder", fn := fun _ => fun
  | [d1, d2, d3] => { results := [.lit (.bool false)], args := [d1, d2, d3] }
  | _ => none }
def EventOrderWrongFalsely : Prop := eventOrderRow.holds Try.pinned (OpenSpec.ofChange eventOrderWrong)

/-- 'stairlaw4.CertNone': WHATEVER THE INPUT: true; the input reads as it did. -/
def certNoneSpec : ChangeSpec := { name := "certNone", fn := fun _ => fun
  | [d] => { results := [.lit (.bool true)], args := [d] }
  | _ => none }
def certNoneRow : OpenClaim := { program := "ytfklbifgjpocnaa", sum := "462d57ccaa165392c18ebe691a134f332ba1e66c9981b828c739f3e28c35fd28", func := "bootstair/stairlaw4.CertNone", spec := "certNone", apart := false }
def CertNoneSaid : Prop := certNoneRow.holds Try.pinned (OpenSpec.ofChange certNoneSpec)

/-- ITS FALSE NEIGHBOUR: 'it returns false'. Refute it at one input. -/
def certNoneWrong : ChangeSpec := { name := "certNone", fn := fun _ => fun
  | [d] => { results := [.lit (.bool false)], args := [d] }
  | _ => none }
def CertNoneWrongFalsely : Prop := certNoneRow.holds Try.pinned (OpenSpec.ofChange certNoneWrong)

/-- 'stairlaw4.BankNone': WHATEVER THE INPUT: true; the input reads as it did. -/
def bankNoneSpec : ChangeSpec := { name := "bankNone", fn := fun _ => fun
  | [d1, d2] => { results := [.lit (.bool true)], args := [d1, d2] }
  | _ => none }
def bankNoneRow : OpenClaim := { program := "ytfklbifgjpocnaa", sum := "462d57ccaa165392c18ebe691a134f332ba1e66c9981b828c739f3e28c35fd28", func := "bootstair/stairlaw4.BankNone", spec := "bankNone", unfollowed := true, recurses := true, apart := false }
def BankNoneSaid : Prop := bankNoneRow.holds Try.pinned (OpenSpec.ofChange bankNoneSpec)

/-- ITS FALSE NEIGHBOUR: 'it returns false'. Refute it at one input. -/
def bankNoneWrong : ChangeSpec := { name := "bankNone", fn := fun _ => fun
  | [d1, d2] => { results := [.lit (.bool false)], args := [d1, d2] }
  | _ => none }
def BankNoneWrongFalsely : Prop := bankNoneRow.holds Try.pinned (OpenSpec.ofChange bankNoneWrong)

/-- 'stairlaw4.BoxNone': WHATEVER THE INPUT: true; the input reads as it did. -/
def boxNoneSpec : ChangeSpec := { name := "boxNone", fn := fun _ => fun
  | [d1, d2] => { results := [.lit (.bool true)], args := [d1, d2] }
  | _ => none }
def boxNoneRow : OpenClaim := { program := "ytfklbifgjpocnaa", sum := "462d57ccaa165392c18ebe691a134f332ba1e66c9981b828c739f3e28c35fd28", func := "bootstair/stairlaw4.BoxNone", spec := "boxNone", unfollowed := true, recurses := true, apart := false }
def BoxNoneSaid : Prop := boxNoneRow.holds Try.pinned (OpenSpec.ofChange boxNoneSpec)

/-- ITS FALSE NEIGHBOUR: 'it returns false'. Refute it at one input. -/
def boxNoneWrong : ChangeSpec := { name := "boxNone", fn := fun _ => fun
  | [d1, d2] => { results := [.lit (.bool false)], args := [d1, d2] }
  | _ => none }
def BoxNoneWrongFalsely : Prop := boxNoneRow.holds Try.pinned (OpenSpec.ofChange boxNoneWrong)

/-- 'stairlaw4.RuleNone': WHATEVER THE INPUT: true; the input reads as it did. -/
def ruleNoneSpec : ChangeSpec := { name := "ruleNone", fn := fun _ => fun
  | [d] => { results := [.lit (.bool true)], args := [d] }
  | _ => none }
def ruleNoneRow : OpenClaim := { program := "ytfklbifgjpocnaa", sum := "462d57ccaa165392c18ebe691a134f332ba1e66c9981b828c739f3e28c35fd28", func := "bootstair/stairlaw4.RuleNone", spec := "ruleNone", unfollowed := true, recurses := true, apart := false }
def RuleNoneSaid : Prop := ruleNoneRow.holds Try.pinned (OpenSpec.ofChange ruleNoneSpec)

/-- ITS FALSE NEIGHBOUR: 'it returns false'. Refute it at one input. -/
def ruleNoneWrong : ChangeSpec := { name := "ruleNone", fn := fun _ => fun
  | [d] => { results := [.lit (.bool false)], args := [d] }
  | _ => none }
def RuleNoneWrongFalsely : Prop := ruleNoneRow.holds Try.pinned (OpenSpec.ofChange ruleNoneWrong)

/-- 'stairlaw2.SlotSafe': WHATEVER THE INPUT: true; the input reads as it did. -/
def slotSafeSpec : ChangeSpec := { name := "slotSafe", fn := fun _ => fun
  | [d1, d2, d3] => { results := [.lit (.bool true)], args := [d1, d2, d3] }
  | _ => none }
def slotSafeRow : OpenClaim := { program := "ytfklbifgjpocnaa", sum := "462d57ccaa165392c18ebe691a134f332ba1e66c9981b828c739f3e28c35fd28", func := "bootstair/stairlaw2.SlotSafe", spec := "slotSafe", unfollowed := true, recurses := true, apart := false }
def SlotSafeSaid : Prop := slotSafeRow.holds Try.pinned (OpenSpec.ofChange slotSafeSpec)

/-- ITS FALSE NEIGHBOUR: 'it returns false'. Refute it at one input. -/
def slotSafeWrong : ChangeSpec := { name := "slotSafe", fn := fun _ => fun
  | [d1, d2, d3] => { results := [.lit (.bool false)], args := [d1, d2, d3] }
  | _ => none }
def SlotSafeWrongFalsely : Prop := slotSafeRow.holds Try.pinned (OpenSpec.ofChange slotSafeWrong)

/-- 'stairlaw1.BankForward': WHATEVER THE INPUT: true; the input reads as it did. -/
def bankForwardSpec : ChangeSpec := { name := "bankForward", fn := fun _ => fun
  | [d1, d2, d3, d4, d5, d6] => { results := [.lit (.bool true)], args := [d1, d2, d3, d4, d5, d6] }
  | _ => none }
def bankForwardRow : OpenClaim := { program := "ytfklbifgjpocnaa", sum := "462d57ccaa165392c18ebe691a134f332ba1e66c9981b828c739f3e28c35fd28", func := "bootstair/stairlaw1.BankForward", spec := "bankForward", unfollowed := true, recurses := true, apart := false }
def BankForwardSaid : Prop := bankForwardRow.holds Try.pinned (OpenSpec.ofChange bankForwardSpec)

/-- ITS FALSE NEIGHBOUR: 'it returns false'. Refute it at one input. -/
def bankForwardWrong : ChangeSpec := { name := "bankForward", fn := fun _ => fun
  | [d1, d2, d3, d4, d5, d6] => { results := [.lit (.bool false)], args := [d1, d2, d3, d4, d5, d6] }
  | _ => none }
def BankForwardWrongFalsely : Prop := bankForwardRow.holds Try.pinned (OpenSpec.ofChange bankForwardWrong)

/- THE SECOND FORM. 'bulk': how many values and letters a reading holds, each counted each time it is reached (what is shared counts as often as it is met; a slice's spare places count too). A statement '..UptoSaid' is the law's where the arguments, and the package variables that the reading takes, are together of bulk at most 1048576: NARROWER than '..Said'. Prove '..Said' where nothing that the law and all that it calls make is longer than what came in: it says more and counts as full. Else prove '..UptoSaid'. A law counts once. -/
mutual
def uptoBulk {H : Type} : DataW H → Nat
  | .lit (.string bytes) => bytes.length + 1
  | .lit _ => 1
  | .nil => 1
  | .ptr d => uptoBulk d + 1
  | .slice elems spare => uptoBulkAll elems + uptoBulkAll spare + 1
  | .agg parts => uptoBulkAll parts + 1
  | .iface _ d => uptoBulk d + 1
  | .map entries => uptoBulkEntries entries + 1
  | .held _ => 1
def uptoBulkAll {H : Type} : List (DataW H) → Nat
  | [] => 0
  | d :: r => uptoBulk d + uptoBulkAll r
def uptoBulkEntries {H : Type} : List (Lit × DataW H) → Nat
  | [] => 0
  | x :: r => uptoBulkEntry x + uptoBulkEntries r
def uptoBulkEntry {H : Type} : Lit × DataW H → Nat
  | (.string bytes, d) => bytes.length + uptoBulk d + 1
  | (_, d) => uptoBulk d + 1
 end
def uptoSmall : (H : Type) → List (DataW H) → Bool := fun _ ds => decide (uptoBulkAll ds ≤ 1048576)
def OpenSpec.upto (s : _root_.Go.ChangeSpec) : _root_.Go.OpenSpec := { _root_.Go.OpenSpec.ofChange s with cond := some uptoSmall }

/-- 'stairlaw4.KeyOrder', WHERE WHAT IT READS IS OF BULK AT MOST 1048576: true; the input reads as it did. -/
def keyOrderUptoRow : OpenClaim := { program := "ytfklbifgjpocnaa", sum := "462d57ccaa165392c18ebe691a134f332ba1e66c9981b828c739f3e28c35fd28", func := "bootstair/stairlaw4.KeyOrder", spec := "keyOrder", apart := false, narrowed := true }
def KeyOrderUptoSaid : Prop := keyOrderUptoRow.holds Try.pinned (OpenSpec.upto keyOrderSpec)

/-- 'stairlaw1.Names', WHERE WHAT IT READS IS OF BULK AT MOST 1048576: true; the input reads as it did. -/
def namesUptoRow : OpenClaim := { program := "ytfklbifgjpocnaa", sum := "462d57ccaa165392c18ebe691a134f332ba1e66c9981b828c739f3e28c35fd28", func := "bootstair/stairlaw1.Names", spec := "names", apart := false, narrowed := true }
def NamesUptoSaid : Prop := namesUptoRow.holds Try.pinned (OpenSpec.upto namesSpec)

/-- 'stairlaw4.MeasureNone', WHERE WHAT IT READS IS OF BULK AT MOST 1048576: true; the input reads as it did. -/
def measureNoneUptoRow : OpenClaim := { program := "ytfklbifgjpocnaa", sum := "462d57ccaa165392c18ebe691a134f332ba1e66c9981b828c739f3e28c35fd28", func := "bootstair/stairlaw4.MeasureNone", spec := "measureNone", apart := false, narrowed := true }
def MeasureNoneUptoSaid : Prop := measureNoneUptoRow.holds Try.pinned (OpenSpec.upto measureNoneSpec)

/-- 'stairlaw1.MeasureGoes', WHERE WHAT IT READS IS OF BULK AT MOST 1048576: true; the input reads as it did. -/
def measureGoesUptoRow : OpenClaim := { program := "ytfklbifgjpocnaa", sum := "462d57ccaa165392c18ebe691a134f332ba1e66c9981b828c739f3e28c35fd28", func := "bootstair/stairlaw1.MeasureGoes", spec := "measureGoes", apart := false, narrowed := true }
def MeasureGoesUptoSaid : Prop := measureGoesUptoRow.holds Try.pinned (OpenSpec.upto measureGoesSpec)

/-- 'stairlaw1.KeySeals', WHERE WHAT IT READS IS OF BULK AT MOST 1048576: true; the input reads as it did. -/
def keySealsUptoRow : OpenClaim := { program := "ytfklbifgjpocnaa", sum := "462d57ccaa165392c18ebe691a134f332ba1e66c9981b828c739f3e28c35fd28", func := "bootstair/stairlaw1.KeySeals", spec := "keySeals", apart := false, narrowed := true }
def KeySealsUptoSaid : Prop := keySealsUptoRow.holds Try.pinned (OpenSpec.upto keySealsSpec)

/-- 'stairlaw2.EventOrder', WHERE WHAT IT READS IS OF BULK AT MOST 1048576: true; the input reads as it did. -/
def eventOrderUptoRow : OpenClaim := { program := "ytfklbifgjpocnaa", sum := "462d57ccaa165392c18ebe691a134f332ba1e66c9981b828c739f3e28c35fd28", func := "bootstair/stairlaw2.EventOrder", spec := "eventOrder", unfollowed := true, recurses := true, apart := false, narrowed := true }
def EventOrderUptoSaid : Prop := eventOrderUptoRow.holds Try.pinned (OpenSpec.upto eventOrderSpec)

/-- 'stairlaw4.CertNone', WHERE WHAT IT READS IS OF BULK AT MOST 1048576: true; the input reads as it did. -/
def certNoneUptoRow : OpenClaim := { program := "ytfklbifgjpocnaa", sum := "462d57ccaa165392c18ebe691a134f332ba1e66c9981b828c739f3e28c35fd28", func := "bootstair/stairlaw4.CertNone", spec := "certNone", apart := false, narrowed := true }
def CertNoneUptoSaid : Prop := certNoneUptoRow.holds Try.pinned (OpenSpec.upto certNoneSpec)

/-- 'stairlaw4.BankNone', WHERE WHAT IT READS IS OF BULK AT MOST 1048576: true; the input reads as it did. -/
def bankNoneUptoRow : OpenClaim := { program := "ytfklbifgjpocnaa", sum := "462d57ccaa165392c18ebe691a134f332ba1e66c9981b828c739f3e28c35fd28", func := "bootstair/stairlaw4.BankNone", spec := "bankNone", unfollowed := true, recurses := true, apart := false, narrowed := true }
def BankNoneUptoSaid : Prop := bankNoneUptoRow.holds Try.pinned (OpenSpec.upto bankNoneSpec)

/-- 'stairlaw4.BoxNone', WHERE WHAT IT READS IS OF BULK AT MOST 1048576: true; the input reads as it did. -/
def boxNoneUptoRow : OpenClaim := { program := "ytfklbifgjpocnaa", sum := "462d57ccaa165392c18ebe691a134f332ba1e66c9981b828c739f3e28c35fd28", func := "bootstair/stairlaw4.BoxNone", spec := "boxNone", unfollowed := true, recurses := true, apart := false, narrowed := true }
def BoxNoneUptoSaid : Prop := boxNoneUptoRow.holds Try.pinned (OpenSpec.upto boxNoneSpec)

/-- 'stairlaw4.RuleNone', WHERE WHAT IT READS IS OF BULK AT MOST 1048576: true; the input reads as it did. -/
def ruleNoneUptoRow : OpenClaim := { program := "ytfklbifgjpocnaa", sum := "462d57ccaa165392c18ebe691a134f332ba1e66c9981b828c739f3e28c35fd28", func := "bootstair/stairlaw4.RuleNone", spec := "ruleNone", unfollowed := true, recurses := true, apart := false, narrowed := true }
def RuleNoneUptoSaid : Prop := ruleNoneUptoRow.holds Try.pinned (OpenSpec.upto ruleNoneSpec)

/-- 'stairlaw2.SlotSafe', WHERE WHAT IT READS IS OF BULK AT MOST 1048576: true; the input reads as it did. -/
def slotSafeUptoRow : OpenClaim := { program := "ytfklbifgjpocnaa", sum := "462d57ccaa165392c18ebe691a134f332ba1e66c9981b828c739f3e28c35fd28", func := "bootstair/stairlaw2.SlotSafe", spec := "slotSafe", unfollowed := true, recurses := true, apart := false, narrowed := true }
def SlotSafeUptoSaid : Prop := slotSafeUptoRow.holds Try.pinned (OpenSpec.upto slotSafeSpec)

/-- 'stairlaw1.BankForward', WHERE WHAT IT READS IS OF BULK AT MOST 1048576: true; the input reads as it did. -/
def bankForwardUptoRow : OpenClaim := { program := "ytfklbifgjpocnaa", sum := "462d57ccaa165392c18ebe691a134f332ba1e66c9981b828c739f3e28c35fd28", func := "bootstair/stairlaw1.BankForward", spec := "bankForward", unfollowed := true, recurses := true, apart := false, narrowed := true }
def BankForwardUptoSaid : Prop := bankForwardUptoRow.holds Try.pinned (OpenSpec.upto bankForwardSpec)

end Rows
end Go.Proofs.Ytfklbifgjpocnaa
