/-
  No cell of these rows narrows 'for every input' (looked for: loops, veiled, ifaces, maps, wideKeys, modest, calm, conditions, laid).
  DERIVED. THE GIVEN ROWS OF THIS SEAT. 5 by the template 'for every input the law returns true; each argument reads behind the call as it read before'; 0 by the template 'total and deterministic' (their statements: YtebecndmlgolpaaTotals.lean).
  GIVEN WITH THE SEED: the statements are not yours to turn. If you find one false, say at which input.
  Laid BY PROGRAM, IN A SANDBOX (cutbox-rows.mjs): the forced cells as the released guide's own fill.sh prints them over the translation 38926d5933654c06… (all of the seat's roots in one cut). By AI agents, Wed Nov 11 2026. No macro, syntax, notation, axiom, sorry.
-/
import Derived.Test.YtebecndmlgolpaaChecked
import GoSem.Claim
import GoSem.ClaimJoined
import GoSem.ClaimMapViews
import Derived.JoinedTies
import Derived.KernelRfl
namespace Go.Proofs.Ytebecndmlgolpaa
/- THE CELL 'sum', in the pinned program and in every row, IS THE sha256 OF THE DUMP (.gsa) THAT YtebecndmlgolpaaProg.lean LOADS. Nothing in Lean hashes anything: it is a label: what it is worth is what the hold of that sum in a sandbox is worth. -/
noncomputable def Try.pinned : Pinned := { name := "ytebecndmlgolpaa", sum := "38926d5933654c0673adc2bc9ad4c7fdbf6372d6eeed0ee5b140ce1c51da3e87", checked := Try.checked }
namespace Rows
def none {H : Type} : Left H := { results := [], args := [] }

/-- 'stairlaw1.CertChain': WHATEVER THE INPUT: true; the input reads as it did. -/
def certChainSpec : ChangeSpec := { name := "certChain", fn := fun _ => fun
  | [d1, d2, d3, d4, d5] => { results := [.lit (.bool true)], args := [d1, d2, d3, d4, d5] }
  | _ => none }
def certChainRow : OpenClaim := { program := "ytebecndmlgolpaa", sum := "38926d5933654c0673adc2bc9ad4c7fdbf6372d6eeed0ee5b140ce1c51da3e87", func := "bootstair/stairlaw1.CertChain", spec := "certChain", apart := false }
def CertChainSaid : Prop := certChainRow.holds Try.pinned (OpenSpec.ofChange certChainSpec)

/-- ITS FALSE NEIGHBOUR: 'it returns false'. Refute it at one input. -/
def certChainWrong : ChangeSpec := { name := "certChain", fn := fun _ => fun
  | [d1, d2, d3, d4, d5] => { results := [.lit (.bool false)], args := [d1, d2, d3, d4, d5] }
  | _ => none }
def CertChainWrongFalsely : Prop := certChainRow.holds Try.pinned (OpenSpec.ofChange certChainWrong)

/-- 'stairlaw4.EventNone': WHATEVER THE INPUT: true; the input reads as it did. -/
def eventNoneSpec : ChangeSpec := { name := "eventNone", fn := fun _ => fun
  | [d1, d2] => { results := [.lit (.bool true)], args := [d1, d2] }
  | _ => none }
def eventNoneRow : OpenClaim := { program := "ytebecndmlgolpaa", sum := "38926d5933654c0673adc2bc9ad4c7fdbf6372d6eeed0ee5b140ce1c51da3e87", func := "bootstair/stairlaw4.EventNone", spec := "eventNone", unfollowed := true, recurses := true, apart := false }
def EventNoneSaid : Prop := eventNoneRow.holds Try.pinned (OpenSpec.ofChange eventNoneSpec)

/-- ITS FALSE NEIGHBOUR: 'it returns false'. Refute it at one input. -/
def eventNoneWrong : ChangeSpec := { name := "eventNone", fn := fun _ => fun
  | [d1, d2] => { results := [.lit (.bool false)], args := [d1, d2] }
  | _ => none }
def EventNoneWrongFalsely : Prop := eventNoneRow.holds Try.pinned (OpenSpec.ofChange eventNoneWrong)

/-- 'stairlaw4.QuoteNone': WHATEVER THE INPUT: true; the input reads as it did. -/
def quoteNoneSpec : ChangeSpec := { name := "quoteNone", fn := fun _ => fun
  | [d1, d2, d3, d4] => { results := [.lit (.bool true)], args := [d1, d2, d3, d4] }
  | _ => none }
def quoteNoneRow : OpenClaim := { program := "ytebecndmlgolpaa", sum := "38926d5933654c0673adc2bc9ad4c7fdbf6372d6eeed0ee5b140ce1c51da3e87", func := "bootstair/stairlaw4.QuoteNone", spec := "quoteNone", unfollowed := true, recurses := true, apart := false }
def QuoteNoneSaid : Prop := quoteNoneRow.holds Try.pinned (OpenSpec.ofChange quoteNoneSpec)

/-- ITS FALSE NEIGHBOUR: 'it returns false'. Refute it at one input. -/
def quoteNoneWrong : ChangeSpec := { name := "quoteNone", fn := fun _ => fun
  | [d1, d2, d3, d4] => { results := [.lit (.bool false)], args := [d1, d2, d3, d4] }
  | _ => none }
def QuoteNoneWrongFalsely : Prop := quoteNoneRow.holds Try.pinned (OpenSpec.ofChange quoteNoneWrong)

/-- 'stairlaw1.RuleSame': WHATEVER THE INPUT: true; the input reads as it did. -/
def ruleSameSpec : ChangeSpec := { name := "ruleSame", fn := fun _ => fun
  | [d1, d2, d3, d4] => { results := [.lit (.bool true)], args := [d1, d2, d3, d4] }
  | _ => none }
def ruleSameRow : OpenClaim := { program := "ytebecndmlgolpaa", sum := "38926d5933654c0673adc2bc9ad4c7fdbf6372d6eeed0ee5b140ce1c51da3e87", func := "bootstair/stairlaw1.RuleSame", spec := "ruleSame", unfollowed := true, recurses := true, apart := false }
def RuleSameSaid : Prop := ruleSameRow.holds Try.pinned (OpenSpec.ofChange ruleSameSpec)

/-- ITS FALSE NEIGHBOUR: 'it returns false'. Refute it at one input. -/
def ruleSameWrong : ChangeSpec := { name := "ruleSame", fn := fun _ => fun
  | [d1, d2, d3, d4] => { results := [.lit (.bool false)], args := [d1, d2, d3, d4] }
  | _ => none }
def RuleSameWrongFalsely : Prop := ruleSameRow.holds Try.pinned (OpenSpec.ofChange ruleSameWrong)

/-- 'stairlaw4.JudgeEmpty': WHATEVER THE INPUT: true; the input reads as it did. -/
def judgeEmptySpec : ChangeSpec := { name := "judgeEmpty", fn := fun _ => fun
  | [d1, d2, d3] => { results := [.lit (.bool true)], args := [d1, d2, d3] }
  | _ => none }
def judgeEmptyRow : OpenClaim := { program := "ytebecndmlgolpaa", sum := "38926d5933654c0673adc2bc9ad4c7fdbf6372d6eeed0ee5b140ce1c51da3e87", func := "bootstair/stairlaw4.JudgeEmpty", spec := "judgeEmpty", unfollowed := true, recurses := true, apart := false }
def JudgeEmptySaid : Prop := judgeEmptyRow.holds Try.pinned (OpenSpec.ofChange judgeEmptySpec)

/-- ITS FALSE NEIGHBOUR: 'it returns false'. Refute it at one input. -/
def judgeEmptyWrong : ChangeSpec := { name := "judgeEmpty", fn := fun _ => fun
  | [d1, d2, d3] => { results := [.lit (.bool false)], args := [d1, d2, d3] }
  | _ => none }
def JudgeEmptyWrongFalsely : Prop := judgeEmptyRow.holds Try.pinned (OpenSpec.ofChange judgeEmptyWrong)

/- THE SECOND FORM. 'bulk': how many values and letters a reading holds, each counted each time it is reached (what is shared counts as often as it is met; a slice's spare places count too). A statement '..UptoSaid' is the law's where the arguments, and the package variables that the reading takes, are together of bulk at most 1048576: NARROWER than '..Said'. Prove '..Said' where nothing that the law and all that it calls make is longer than what came in: it says more and counts as full. Else prove '..UptoSaid'. A law counts once. -/
mutual
def uptoBulk {H : Type} : DataW H → Nat
  | .lit (.string bytes) => bytes.length + 1
  | .lit _ => 1
  | .nil => 1
  | .ptr d => uptoBulk d + 1
  | .slice elems spare => uptoBulkAll elems + uptoBulkAll spare + 1
  | .agg parts => uptoBulkAll parts + 1
  | .iface _ d => uptoBulk d + 1
  | .map entries => uptoBulkEntries entries + 1
  | .held _ => 1
def uptoBulkAll {H : Type} : List (DataW H) → Nat
  | [] => 0
  | d :: r => uptoBulk d + uptoBulkAll r
def uptoBulkEntries {H : Type} : List (Lit × DataW H) → Nat
  | [] => 0
  | x :: r => uptoBulkEntry x + uptoBulkEntries r
def uptoBulkEntry {H : Type} : Lit × DataW H → Nat
  | (.string bytes, d) => bytes.length + uptoBulk d + 1
  | (_, d) => uptoBulk d + 1
 end
def uptoSmall : (H : Type) → List (DataW H) → Bool := fun _ ds => decide (uptoBulkAll ds ≤ 1048576)
def OpenSpec.upto (s : _root_.Go.ChangeSpec) : _root_.Go.OpenSpec := { _root_.Go.OpenSpec.ofChange s with cond := some uptoSmall }

/-- 'stairlaw1.CertChain', WHERE WHAT IT READS IS OF BULK AT MOST 1048576: true; the input reads as it did. -/
def certChainUptoRow : OpenClaim := { program := "ytebecndmlgolpaa", sum := "38926d5933654c0673adc2bc9ad4c7fdbf6372d6eeed0ee5b140ce1c51da3e87", func := "bootstair/stairlaw1.CertChain", spec := "certChain", apart := false, narrowed := true }
def CertChainUptoSaid : Prop := certChainUptoRow.holds Try.pinned (OpenSpec.upto certChainSpec)

/-- 'stairlaw4.EventNone', WHERE WHAT IT READS IS OF BULK AT MOST 1048576: true; the input reads as it did. -/
def eventNoneUptoRow : OpenClaim := { program := "ytebecndmlgolpaa", sum := "38926d5933654c0673adc2bc9ad4c7fdbf6372d6eeed0ee5b140ce1c51da3e87", func := "bootstair/stairlaw4.EventNone", spec := "eventNone", unfollowed := true, recurses := true, apart := false, narrowed := true }
def EventNoneUptoSaid : Prop := eventNoneUptoRow.holds Try.pinned (OpenSpec.upto eventNoneSpec)

/-- 'stairlaw4.QuoteNone', WHERE WHAT IT READS IS OF BULK AT MOST 1048576: true; the input reads as it did. -/
def quoteNoneUptoRow : OpenClaim := { program := "ytebecndmlgolpaa", sum := "38926d5933654c0673adc2bc9ad4c7fdbf6372d6eeed0ee5b140ce1c51da3e87", func := "bootstair/stairlaw4.QuoteNone", spec := "quoteNone", unfollowed := true, recurses := true, apart := false, narrowed := true }
def QuoteNoneUptoSaid : Prop := quoteNoneUptoRow.holds Try.pinned (OpenSpec.upto quoteNoneSpec)

/-- 'stairlaw1.RuleSame', WHERE WHAT IT READS IS OF BULK AT MOST 1048576: true; the input reads as it did. -/
def ruleSameUptoRow : OpenClaim := { program := "ytebecndmlgolpaa", sum := "38926d5933654c0673adc2bc9ad4c7fdbf6372d6eeed0ee5b140ce1c51da3e87", func := "bootstair/stairlaw1.RuleSame", spec := "ruleSame", unfollowed := true, recurses := true, apart := false, narrowed := true }
def RuleSameUptoSaid : Prop := ruleSameUptoRow.holds Try.pinned (OpenSpec.upto ruleSameSpec)

/-- 'stairlaw4.JudgeEmpty', WHERE WHAT IT READS IS OF BULK AT MOST 1048576: true; the input reads as it did. -/
def judgeEmptyUptoRow : OpenClaim := { program := "ytebecndmlgolpaa", sum := "38926d5933654c0673adc2bc9ad4c7fdbf6372d6eeed0ee5b140ce1c51da3e87", func := "bootstair/stairlaw4.JudgeEmpty", spec := "judgeEmpty", unfollowed := true, recurses := true, apart := false, narrowed := true }
def JudgeEmptyUptoSaid : Prop := judgeEmptyUptoRow.holds Try.pinned (OpenSpec.upto judgeEmptySpec)

end Rows
end Go.Proofs.Ytebecndmlgolpaa
