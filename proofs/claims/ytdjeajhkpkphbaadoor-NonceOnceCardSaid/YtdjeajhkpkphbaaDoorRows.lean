/-
  NARROWER THAN 'FOR EVERY INPUT', by the rows' own cells (each row's printed sentence says how): BoxOpens: laid · QuoteTells: laid · JudgeTells: laid · QuoteFresh: laid · NonceFull: laid · NonceOnce: laid · NoncePlays: laid · KeeperNone: laid · KeeperPlays: laid · KeeperOnce: laid.
  DERIVED. THE GIVEN ROWS OF THIS SEAT. 10 by the template 'for every input the law returns true; each argument reads behind the call as it read before'; 0 by the template 'total and deterministic' (their statements: YtdjeajhkpkphbaaDoorTotals.lean).
  GIVEN WITH THE SEED: the statements are not yours to turn. If you find one false, say at which input.
  Laid BY PROGRAM, IN A SANDBOX (cutbox-rows.mjs): the forced cells as the released guide's own fill.sh prints them over the translation 1404bceb981fce05… (all of the seat's roots in one cut). By AI agents, Wed Nov 11 2026. No macro, syntax, notation, axiom, sorry.
-/
import Derived.Test.YtdjeajhkpkphbaaDoorChecked
import GoSem.Claim
import GoSem.ClaimJoined
import GoSem.ClaimMapViews
import Derived.JoinedTies
import Derived.KernelRfl
namespace Go.Proofs.YtdjeajhkpkphbaaDoor
/- THE CELL 'sum', in the pinned program and in every row, IS THE sha256 OF THE DUMP (.gsa) THAT YtdjeajhkpkphbaaDoorProg.lean LOADS. Nothing in Lean hashes anything: it is a label: what it is worth is what the hold of that sum in a sandbox is worth. -/
noncomputable def Tryd.pinned : Pinned := { name := "ytdjeajhkpkphbaadoor", sum := "1404bceb981fce05f1d6afedbb464fcc33586e841f8cc53e5f5159f9f293aee1", checked := Tryd.checked }
namespace Rows
def none {H : Type} : Left H := { results := [], args := [] }

/- WHAT THE LISTED PACKAGE-LEVEL VARIABLES READ AS WHEN THE CALL BEGINS. Each datum BY PROGRAM (the guide's laid-datum.mjs) off the statement by which the dump's own 'gosem.cut.vars' lays the variable. In a bare row this is a premise. The card (YtdjeajhkpkphbaaDoorCards.lean) ties it to the program's text. -/
def laid_errors_errorType {H : Type} : DataW H := .iface "internal/reflectlite.rtype" (.agg [.ptr (.lit (.string [101, 114, 114, 111, 114]))])

/-- 'stairlaw1.BoxOpens': WHATEVER THE INPUT: true; the input reads as it did. -/
def boxOpensSpec : ChangeSpec := { name := "boxOpens", fn := fun _ => fun
  | [d1, d2, d3, d4, d5, d6] => { results := [.lit (.bool true)], args := [d1, d2, d3, d4, d5, d6] }
  | _ => none }
def boxOpensRow : OpenClaim := { program := "ytdjeajhkpkphbaadoor", sum := "1404bceb981fce05f1d6afedbb464fcc33586e841f8cc53e5f5159f9f293aee1", func := "bootstair/stairlaw1.BoxOpens", spec := "boxOpens", inPlace := ["internal/reflectlite.ValueOf", "(internal/reflectlite.Value).Type", "(internal/reflectlite.Value).IsNil", "internal/reflectlite.TypeOf", "(internal/reflectlite.Value).Elem", "(internal/reflectlite.Value).Set"], unfollowed := true, recurses := true, named := ["errors.errorType"], apart := false, laid := [("errors.errorType", laid_errors_errorType)] }
def BoxOpensSaid : Prop := boxOpensRow.holds Tryd.pinned (OpenSpec.ofChange boxOpensSpec)

/-- ITS FALSE NEIGHBOUR: 'it returns false'. Refute it at one input. -/
def boxOpensWrong : ChangeSpec := { name := "boxOpens", fn := fun _ => fun
  | [d1, d2, d3, d4, d5, d6] => { results := [.lit (.bool false)], args := [d1, d2, d3, d4, d5, d6] }
  | _ => none }
def BoxOpensWrongFalsely : Prop := boxOpensRow.holds Tryd.pinned (OpenSpec.ofChange boxOpensWrong)

/-- 'stairlaw1.QuoteTells': WHATEVER THE INPUT: true; the input reads as it did. -/
def quoteTellsSpec : ChangeSpec := { name := "quoteTells", fn := fun _ => fun
  | [d1, d2, d3, d4, d5, d6, d7, d8, d9] => { results := [.lit (.bool true)], args := [d1, d2, d3, d4, d5, d6, d7, d8, d9] }
  | _ => none }
def quoteTellsRow : OpenClaim := { program := "ytdjeajhkpkphbaadoor", sum := "1404bceb981fce05f1d6afedbb464fcc33586e841f8cc53e5f5159f9f293aee1", func := "bootstair/stairlaw1.QuoteTells", spec := "quoteTells", inPlace := ["internal/reflectlite.ValueOf", "(internal/reflectlite.Value).Type", "(internal/reflectlite.Value).IsNil", "internal/reflectlite.TypeOf", "(internal/reflectlite.Value).Elem", "(internal/reflectlite.Value).Set"], unfollowed := true, recurses := true, named := ["errors.errorType"], apart := false, laid := [("errors.errorType", laid_errors_errorType)] }
def QuoteTellsSaid : Prop := quoteTellsRow.holds Tryd.pinned (OpenSpec.ofChange quoteTellsSpec)

/-- ITS FALSE NEIGHBOUR: 'it returns false'. Refute it at one input. -/
def quoteTellsWrong : ChangeSpec := { name := "quoteTells", fn := fun _ => fun
  | [d1, d2, d3, d4, d5, d6, d7, d8, d9] => { results := [.lit (.bool false)], args := [d1, d2, d3, d4, d5, d6, d7, d8, d9] }
  | _ => none }
def QuoteTellsWrongFalsely : Prop := quoteTellsRow.holds Tryd.pinned (OpenSpec.ofChange quoteTellsWrong)

/-- 'stairlaw2.JudgeTells': WHATEVER THE INPUT: true; the input reads as it did. -/
def judgeTellsSpec : ChangeSpec := { name := "judgeTells", fn := fun _ => fun
  | [d1, d2, d3, d4, d5] => { results := [.lit (.bool true)], args := [d1, d2, d3, d4, d5] }
  | _ => none }
def judgeTellsRow : OpenClaim := { program := "ytdjeajhkpkphbaadoor", sum := "1404bceb981fce05f1d6afedbb464fcc33586e841f8cc53e5f5159f9f293aee1", func := "bootstair/stairlaw2.JudgeTells", spec := "judgeTells", inPlace := ["internal/reflectlite.ValueOf", "(internal/reflectlite.Value).Type", "(internal/reflectlite.Value).IsNil", "internal/reflectlite.TypeOf", "(internal/reflectlite.Value).Elem", "(internal/reflectlite.Value).Set"], unfollowed := true, recurses := true, named := ["errors.errorType"], apart := false, laid := [("errors.errorType", laid_errors_errorType)] }
def JudgeTellsSaid : Prop := judgeTellsRow.holds Tryd.pinned (OpenSpec.ofChange judgeTellsSpec)

/-- ITS FALSE NEIGHBOUR: 'it returns false'. Refute it at one input. -/
def judgeTellsWrong : ChangeSpec := { name := "judgeTells", fn := fun _ => fun
  | [d1, d2, d3, d4, d5] => { results := [.lit (.bool false)], args := [d1, d2, d3, d4, d5] }
  | _ => none }
def JudgeTellsWrongFalsely : Prop := judgeTellsRow.holds Tryd.pinned (OpenSpec.ofChange judgeTellsWrong)

/-- 'stairlaw1.QuoteFresh': WHATEVER THE INPUT: true; the input reads as it did. -/
def quoteFreshSpec : ChangeSpec := { name := "quoteFresh", fn := fun _ => fun
  | [d1, d2, d3, d4, d5, d6, d7, d8, d9] => { results := [.lit (.bool true)], args := [d1, d2, d3, d4, d5, d6, d7, d8, d9] }
  | _ => none }
def quoteFreshRow : OpenClaim := { program := "ytdjeajhkpkphbaadoor", sum := "1404bceb981fce05f1d6afedbb464fcc33586e841f8cc53e5f5159f9f293aee1", func := "bootstair/stairlaw1.QuoteFresh", spec := "quoteFresh", inPlace := ["internal/reflectlite.ValueOf", "(internal/reflectlite.Value).Type", "(internal/reflectlite.Value).IsNil", "internal/reflectlite.TypeOf", "(internal/reflectlite.Value).Elem", "(internal/reflectlite.Value).Set"], unfollowed := true, recurses := true, named := ["errors.errorType"], apart := false, laid := [("errors.errorType", laid_errors_errorType)] }
def QuoteFreshSaid : Prop := quoteFreshRow.holds Tryd.pinned (OpenSpec.ofChange quoteFreshSpec)

/-- ITS FALSE NEIGHBOUR: 'it returns false'. Refute it at one input. -/
def quoteFreshWrong : ChangeSpec := { name := "quoteFresh", fn := fun _ => fun
  | [d1, d2, d3, d4, d5, d6, d7, d8, d9] => { results := [.lit (.bool false)], args := [d1, d2, d3, d4, d5, d6, d7, d8, d9] }
  | _ => none }
def QuoteFreshWrongFalsely : Prop := quoteFreshRow.holds Tryd.pinned (OpenSpec.ofChange quoteFreshWrong)

/-- 'stairlaw4.NonceFull': WHATEVER THE INPUT: true; the input reads as it did. -/
def nonceFullSpec : ChangeSpec := { name := "nonceFull", fn := fun _ => fun
  | [d1, d2] => { results := [.lit (.bool true)], args := [d1, d2] }
  | _ => none }
def nonceFullRow : OpenClaim := { program := "ytdjeajhkpkphbaadoor", sum := "1404bceb981fce05f1d6afedbb464fcc33586e841f8cc53e5f5159f9f293aee1", func := "bootstair/stairlaw4.NonceFull", spec := "nonceFull", inPlace := ["internal/reflectlite.ValueOf", "(internal/reflectlite.Value).Type", "(internal/reflectlite.Value).IsNil", "internal/reflectlite.TypeOf", "(internal/reflectlite.Value).Elem", "(internal/reflectlite.Value).Set"], unfollowed := true, recurses := true, named := ["errors.errorType"], apart := false, laid := [("errors.errorType", laid_errors_errorType)] }
def NonceFullSaid : Prop := nonceFullRow.holds Tryd.pinned (OpenSpec.ofChange nonceFullSpec)

/-- ITS FALSE NEIGHBOUR: 'it returns false'. Refute it at one input. -/
def nonceFullWrong : ChangeSpec := { name := "nonceFull", fn := fun _ => fun
  | [d1, d2] => { results := [.lit (.bool false)], args := [d1, d2] }
  | _ => none }
def NonceFullWrongFalsely : Prop := nonceFullRow.holds Tryd.pinned (OpenSpec.ofChange nonceFullWrong)

/-- 'stairlaw1.NonceOnce': WHATEVER THE INPUT: true; the input reads as it did. -/
def nonceOnceSpec : ChangeSpec := { name := "nonceOnce", fn := fun _ => fun
  | [d1, d2, d3] => { results := [.lit (.bool true)], args := [d1, d2, d3] }
  | _ => none }
def nonceOnceRow : OpenClaim := { program := "ytdjeajhkpkphbaadoor", sum := "1404bceb981fce05f1d6afedbb464fcc33586e841f8cc53e5f5159f9f293aee1", func := "bootstair/stairlaw1.NonceOnce", spec := "nonceOnce", inPlace := ["internal/reflectlite.ValueOf", "(internal/reflectlite.Value).Type", "(internal/reflectlite.Value).IsNil", "internal/reflectlite.TypeOf", "(internal/reflectlite.Value).Elem", "(internal/reflectlite.Value).Set"], unfollowed := true, recurses := true, named := ["errors.errorType"], apart := false, laid := [("errors.errorType", laid_errors_errorType)] }
def NonceOnceSaid : Prop := nonceOnceRow.holds Tryd.pinned (OpenSpec.ofChange nonceOnceSpec)

/-- ITS FALSE NEIGHBOUR: 'it returns false'. Refute it at one input. -/
def nonceOnceWrong : ChangeSpec := { name := "nonceOnce", fn := fun _ => fun
  | [d1, d2, d3] => { results := [.lit (.bool false)], args := [d1, d2, d3] }
  | _ => none }
def NonceOnceWrongFalsely : Prop := nonceOnceRow.holds Tryd.pinned (OpenSpec.ofChange nonceOnceWrong)

/-- 'stairlaw1.NoncePlays': WHATEVER THE INPUT: true; the input reads as it did. -/
def noncePlaysSpec : ChangeSpec := { name := "noncePlays", fn := fun _ => fun
  | [d1, d2] => { results := [.lit (.bool true)], args := [d1, d2] }
  | _ => none }
def noncePlaysRow : OpenClaim := { program := "ytdjeajhkpkphbaadoor", sum := "1404bceb981fce05f1d6afedbb464fcc33586e841f8cc53e5f5159f9f293aee1", func := "bootstair/stairlaw1.NoncePlays", spec := "noncePlays", inPlace := ["internal/reflectlite.ValueOf", "(internal/reflectlite.Value).Type", "(internal/reflectlite.Value).IsNil", "internal/reflectlite.TypeOf", "(internal/reflectlite.Value).Elem", "(internal/reflectlite.Value).Set"], unfollowed := true, recurses := true, named := ["errors.errorType"], apart := false, laid := [("errors.errorType", laid_errors_errorType)] }
def NoncePlaysSaid : Prop := noncePlaysRow.holds Tryd.pinned (OpenSpec.ofChange noncePlaysSpec)

/-- ITS FALSE NEIGHBOUR: 'it returns false'. Refute it at one input. -/
def noncePlaysWrong : ChangeSpec := { name := "noncePlays", fn := fun _ => fun
  | [d1, d2] => { results := [.lit (.bool false)], args := [d1, d2] }
  | _ => none }
def NoncePlaysWrongFalsely : Prop := noncePlaysRow.holds Tryd.pinned (OpenSpec.ofChange noncePlaysWrong)

/-- 'stairlaw4.KeeperNone': WHATEVER THE INPUT: true; the input reads as it did. -/
def keeperNoneSpec : ChangeSpec := { name := "keeperNone", fn := fun _ => fun
  | [d1, d2, d3] => { results := [.lit (.bool true)], args := [d1, d2, d3] }
  | _ => none }
def keeperNoneRow : OpenClaim := { program := "ytdjeajhkpkphbaadoor", sum := "1404bceb981fce05f1d6afedbb464fcc33586e841f8cc53e5f5159f9f293aee1", func := "bootstair/stairlaw4.KeeperNone", spec := "keeperNone", inPlace := ["internal/reflectlite.ValueOf", "(internal/reflectlite.Value).Type", "(internal/reflectlite.Value).IsNil", "internal/reflectlite.TypeOf", "(internal/reflectlite.Value).Elem", "(internal/reflectlite.Value).Set"], unfollowed := true, recurses := true, named := ["errors.errorType"], apart := false, laid := [("errors.errorType", laid_errors_errorType)] }
def KeeperNoneSaid : Prop := keeperNoneRow.holds Tryd.pinned (OpenSpec.ofChange keeperNoneSpec)

/-- ITS FALSE NEIGHBOUR: 'it returns false'. Refute it at one input. -/
def keeperNoneWrong : ChangeSpec := { name := "keeperNone", fn := fun _ => fun
  | [d1, d2, d3] => { results := [.lit (.bool false)], args := [d1, d2, d3] }
  | _ => none }
def KeeperNoneWrongFalsely : Prop := keeperNoneRow.holds Tryd.pinned (OpenSpec.ofChange keeperNoneWrong)

/-- 'stairlaw2.KeeperPlays': WHATEVER THE INPUT: true; the input reads as it did. -/
def keeperPlaysSpec : ChangeSpec := { name := "keeperPlays", fn := fun _ => fun
  | [d1, d2, d3, d4, d5, d6, d7] => { results := [.lit (.bool true)], args := [d1, d2, d3, d4, d5, d6, d7] }
  | _ => none }
def keeperPlaysRow : OpenClaim := { program := "ytdjeajhkpkphbaadoor", sum := "1404bceb981fce05f1d6afedbb464fcc33586e841f8cc53e5f5159f9f293aee1", func := "bootstair/stairlaw2.KeeperPlays", spec := "keeperPlays", inPlace := ["internal/reflectlite.ValueOf", "(internal/reflectlite.Value).Type", "(internal/reflectlite.Value).IsNil", "internal/reflectlite.TypeOf", "(internal/reflectlite.Value).Elem", "(internal/reflectlite.Value).Set"], unfollowed := true, recurses := true, named := ["errors.errorType"], apart := false, laid := [("errors.errorType", laid_errors_errorType)] }
def KeeperPlaysSaid : Prop := keeperPlaysRow.holds Tryd.pinned (OpenSpec.ofChange keeperPlaysSpec)

/-- ITS FALSE NEIGHBOUR: 'it returns false'. Refute it at one input. -/
def keeperPlaysWrong : ChangeSpec := { name := "keeperPlays", fn := fun _ => fun
  | [d1, d2, d3, d4, d5, d6, d7] => { results := [.lit (.bool false)], args := [d1, d2, d3, d4, d5, d6, d7] }
  | _ => none }
def KeeperPlaysWrongFalsely : Prop := keeperPlaysRow.holds Tryd.pinned (OpenSpec.ofChange keeperPlaysWrong)

/-- 'stairlaw2.KeeperOnce': WHATEVER THE INPUT: true; the input reads as it did. -/
def keeperOnceSpec : ChangeSpec := { name := "keeperOnce", fn := fun _ => fun
  | [d1, d2, d3, d4, d5, d6, d7] => { results := [.lit (.bool true)], args := [d1, d2, d3, d4, d5, d6, d7] }
  | _ => none }
def keeperOnceRow : OpenClaim := { program := "ytdjeajhkpkphbaadoor", sum := "1404bceb981fce05f1d6afedbb464fcc33586e841f8cc53e5f5159f9f293aee1", func := "bootstair/stairlaw2.KeeperOnce", spec := "keeperOnce", inPlace := ["internal/reflectlite.ValueOf", "(internal/reflectlite.Value).Type", "(internal/reflectlite.Value).IsNil", "internal/reflectlite.TypeOf", "(internal/reflectlite.Value).Elem", "(internal/reflectlite.Value).Set"], unfollowed := true, recurses := true, named := ["errors.errorType"], apart := false, laid := [("errors.errorType", laid_errors_errorType)] }
def KeeperOnceSaid : Prop := keeperOnceRow.holds Tryd.pinned (OpenSpec.ofChange keeperOnceSpec)

/-- ITS FALSE NEIGHBOUR: 'it returns false'. Refute it at one input. -/
def keeperOnceWrong : ChangeSpec := { name := "keeperOnce", fn := fun _ => fun
  | [d1, d2, d3, d4, d5, d6, d7] => { results := [.lit (.bool false)], args := [d1, d2, d3, d4, d5, d6, d7] }
  | _ => none }
def KeeperOnceWrongFalsely : Prop := keeperOnceRow.holds Tryd.pinned (OpenSpec.ofChange keeperOnceWrong)

/- THE SECOND FORM. 'bulk': how many values and letters a reading holds, each counted each time it is reached (what is shared counts as often as it is met; a slice's spare places count too). A statement '..UptoSaid' is the law's where the arguments, and the package variables that the reading takes, are together of bulk at most 1048576: NARROWER than '..Said'. Prove '..Said' where nothing that the law and all that it calls make is longer than what came in: it says more and counts as full. Else prove '..UptoSaid'. A law counts once. -/
mutual
def uptoBulk {H : Type} : DataW H → Nat
  | .lit (.string bytes) => bytes.length + 1
  | .lit _ => 1
  | .nil => 1
  | .ptr d => uptoBulk d + 1
  | .slice elems spare => uptoBulkAll elems + uptoBulkAll spare + 1
  | .agg parts => uptoBulkAll parts + 1
  | .iface _ d => uptoBulk d + 1
  | .map entries => uptoBulkEntries entries + 1
  | .held _ => 1
def uptoBulkAll {H : Type} : List (DataW H) → Nat
  | [] => 0
  | d :: r => uptoBulk d + uptoBulkAll r
def uptoBulkEntries {H : Type} : List (Lit × DataW H) → Nat
  | [] => 0
  | x :: r => uptoBulkEntry x + uptoBulkEntries r
def uptoBulkEntry {H : Type} : Lit × DataW H → Nat
  | (.string bytes, d) => bytes.length + uptoBulk d + 1
  | (_, d) => uptoBulk d + 1
 end
def uptoSmall : (H : Type) → List (DataW H) → Bool := fun _ ds => decide (uptoBulkAll ds ≤ 1048576)
def OpenSpec.upto (s : _root_.Go.ChangeSpec) : _root_.Go.OpenSpec := { _root_.Go.OpenSpec.ofChange s with cond := some uptoSmall }

/-- 'stairlaw1.BoxOpens', WHERE WHAT IT READS IS OF BULK AT MOST 1048576: true; the input reads as it did. -/
def boxOpensUptoRow : OpenClaim := { program := "ytdjeajhkpkphbaadoor", sum := "1404bceb981fce05f1d6afedbb464fcc33586e841f8cc53e5f5159f9f293aee1", func := "bootstair/stairlaw1.BoxOpens", spec := "boxOpens", inPlace := ["internal/reflectlite.ValueOf", "(internal/reflectlite.Value).Type", "(internal/reflectlite.Value).IsNil", "internal/reflectlite.TypeOf", "(internal/reflectlite.Value).Elem", "(internal/reflectlite.Value).Set"], unfollowed := true, recurses := true, named := ["errors.errorType"], apart := false, laid := [("errors.errorType", laid_errors_errorType)], narrowed := true }
def BoxOpensUptoSaid : Prop := boxOpensUptoRow.holds Tryd.pinned (OpenSpec.upto boxOpensSpec)

/-- 'stairlaw1.QuoteTells', WHERE WHAT IT READS IS OF BULK AT MOST 1048576: true; the input reads as it did. -/
def quoteTellsUptoRow : OpenClaim := { program := "ytdjeajhkpkphbaadoor", sum := "1404bceb981fce05f1d6afedbb464fcc33586e841f8cc53e5f5159f9f293aee1", func := "bootstair/stairlaw1.QuoteTells", spec := "quoteTells", inPlace := ["internal/reflectlite.ValueOf", "(internal/reflectlite.Value).Type", "(internal/reflectlite.Value).IsNil", "internal/reflectlite.TypeOf", "(internal/reflectlite.Value).Elem", "(internal/reflectlite.Value).Set"], unfollowed := true, recurses := true, named := ["errors.errorType"], apart := false, laid := [("errors.errorType", laid_errors_errorType)], narrowed := true }
def QuoteTellsUptoSaid : Prop := quoteTellsUptoRow.holds Tryd.pinned (OpenSpec.upto quoteTellsSpec)

/-- 'stairlaw2.JudgeTells', WHERE WHAT IT READS IS OF BULK AT MOST 1048576: true; the input reads as it did. -/
def judgeTellsUptoRow : OpenClaim := { program := "ytdjeajhkpkphbaadoor", sum := "1404bceb981fce05f1d6afedbb464fcc33586e841f8cc53e5f5159f9f293aee1", func := "bootstair/stairlaw2.JudgeTells", spec := "judgeTells", inPlace := ["internal/reflectlite.ValueOf", "(internal/reflectlite.Value).Type", "(internal/reflectlite.Value).IsNil", "internal/reflectlite.TypeOf", "(internal/reflectlite.Value).Elem", "(internal/reflectlite.Value).Set"], unfollowed := true, recurses := true, named := ["errors.errorType"], apart := false, laid := [("errors.errorType", laid_errors_errorType)], narrowed := true }
def JudgeTellsUptoSaid : Prop := judgeTellsUptoRow.holds Tryd.pinned (OpenSpec.upto judgeTellsSpec)

/-- 'stairlaw1.QuoteFresh', WHERE WHAT IT READS IS OF BULK AT MOST 1048576: true; the input reads as it did. -/
def quoteFreshUptoRow : OpenClaim := { program := "ytdjeajhkpkphbaadoor", sum := "1404bceb981fce05f1d6afedbb464fcc33586e841f8cc53e5f5159f9f293aee1", func := "bootstair/stairlaw1.QuoteFresh", spec := "quoteFresh", inPlace := ["internal/reflectlite.ValueOf", "(internal/reflectlite.Value).Type", "(internal/reflectlite.Value).IsNil", "internal/reflectlite.TypeOf", "(internal/reflectlite.Value).Elem", "(internal/reflectlite.Value).Set"], unfollowed := true, recurses := true, named := ["errors.errorType"], apart := false, laid := [("errors.errorType", laid_errors_errorType)], narrowed := true }
def QuoteFreshUptoSaid : Prop := quoteFreshUptoRow.holds Tryd.pinned (OpenSpec.upto quoteFreshSpec)

/-- 'stairlaw4.NonceFull', WHERE WHAT IT READS IS OF BULK AT MOST 1048576: true; the input reads as it did. -/
def nonceFullUptoRow : OpenClaim := { program := "ytdjeajhkpkphbaadoor", sum := "1404bceb981fce05f1d6afedbb464fcc33586e841f8cc53e5f5159f9f293aee1", func := "bootstair/stairlaw4.NonceFull", spec := "nonceFull", inPlace := ["internal/reflectlite.ValueOf", "(internal/reflectlite.Value).Type", "(internal/reflectlite.Value).IsNil", "internal/reflectlite.TypeOf", "(internal/reflectlite.Value).Elem", "(internal/reflectlite.Value).Set"], unfollowed := true, recurses := true, named := ["errors.errorType"], apart := false, laid := [("errors.errorType", laid_errors_errorType)], narrowed := true }
def NonceFullUptoSaid : Prop := nonceFullUptoRow.holds Tryd.pinned (OpenSpec.upto nonceFullSpec)

/-- 'stairlaw1.NonceOnce', WHERE WHAT IT READS IS OF BULK AT MOST 1048576: true; the input reads as it did. -/
def nonceOnceUptoRow : OpenClaim := { program := "ytdjeajhkpkphbaadoor", sum := "1404bceb981fce05f1d6afedbb464fcc33586e841f8cc53e5f5159f9f293aee1", func := "bootstair/stairlaw1.NonceOnce", spec := "nonceOnce", inPlace := ["internal/reflectlite.ValueOf", "(internal/reflectlite.Value).Type", "(internal/reflectlite.Value).IsNil", "internal/reflectlite.TypeOf", "(internal/reflectlite.Value).Elem", "(internal/reflectlite.Value).Set"], unfollowed := true, recurses := true, named := ["errors.errorType"], apart := false, laid := [("errors.errorType", laid_errors_errorType)], narrowed := true }
def NonceOnceUptoSaid : Prop := nonceOnceUptoRow.holds Tryd.pinned (OpenSpec.upto nonceOnceSpec)

/-- 'stairlaw1.NoncePlays', WHERE WHAT IT READS IS OF BULK AT MOST 1048576: true; the input reads as it did. -/
def noncePlaysUptoRow : OpenClaim := { program := "ytdjeajhkpkphbaadoor", sum := "1404bceb981fce05f1d6afedbb464fcc33586e841f8cc53e5f5159f9f293aee1", func := "bootstair/stairlaw1.NoncePlays", spec := "noncePlays", inPlace := ["internal/reflectlite.ValueOf", "(internal/reflectlite.Value).Type", "(internal/reflectlite.Value).IsNil", "internal/reflectlite.TypeOf", "(internal/reflectlite.Value).Elem", "(internal/reflectlite.Value).Set"], unfollowed := true, recurses := true, named := ["errors.errorType"], apart := false, laid := [("errors.errorType", laid_errors_errorType)], narrowed := true }
def NoncePlaysUptoSaid : Prop := noncePlaysUptoRow.holds Tryd.pinned (OpenSpec.upto noncePlaysSpec)

/-- 'stairlaw4.KeeperNone', WHERE WHAT IT READS IS OF BULK AT MOST 1048576: true; the input reads as it did. -/
def keeperNoneUptoRow : OpenClaim := { program := "ytdjeajhkpkphbaadoor", sum := "1404bceb981fce05f1d6afedbb464fcc33586e841f8cc53e5f5159f9f293aee1", func := "bootstair/stairlaw4.KeeperNone", spec := "keeperNone", inPlace := ["internal/reflectlite.ValueOf", "(internal/reflectlite.Value).Type", "(internal/reflectlite.Value).IsNil", "internal/reflectlite.TypeOf", "(internal/reflectlite.Value).Elem", "(internal/reflectlite.Value).Set"], unfollowed := true, recurses := true, named := ["errors.errorType"], apart := false, laid := [("errors.errorType", laid_errors_errorType)], narrowed := true }
def KeeperNoneUptoSaid : Prop := keeperNoneUptoRow.holds Tryd.pinned (OpenSpec.upto keeperNoneSpec)

/-- 'stairlaw2.KeeperPlays', WHERE WHAT IT READS IS OF BULK AT MOST 1048576: true; the input reads as it did. -/
def keeperPlaysUptoRow : OpenClaim := { program := "ytdjeajhkpkphbaadoor", sum := "1404bceb981fce05f1d6afedbb464fcc33586e841f8cc53e5f5159f9f293aee1", func := "bootstair/stairlaw2.KeeperPlays", spec := "keeperPlays", inPlace := ["internal/reflectlite.ValueOf", "(internal/reflectlite.Value).Type", "(internal/reflectlite.Value).IsNil", "internal/reflectlite.TypeOf", "(internal/reflectlite.Value).Elem", "(internal/reflectlite.Value).Set"], unfollowed := true, recurses := true, named := ["errors.errorType"], apart := false, laid := [("errors.errorType", laid_errors_errorType)], narrowed := true }
def KeeperPlaysUptoSaid : Prop := keeperPlaysUptoRow.holds Tryd.pinned (OpenSpec.upto keeperPlaysSpec)

/-- 'stairlaw2.KeeperOnce', WHERE WHAT IT READS IS OF BULK AT MOST 1048576: true; the input reads as it did. -/
def keeperOnceUptoRow : OpenClaim := { program := "ytdjeajhkpkphbaadoor", sum := "1404bceb981fce05f1d6afedbb464fcc33586e841f8cc53e5f5159f9f293aee1", func := "bootstair/stairlaw2.KeeperOnce", spec := "keeperOnce", inPlace := ["internal/reflectlite.ValueOf", "(internal/reflectlite.Value).Type", "(internal/reflectlite.Value).IsNil", "internal/reflectlite.TypeOf", "(internal/reflectlite.Value).Elem", "(internal/reflectlite.Value).Set"], unfollowed := true, recurses := true, named := ["errors.errorType"], apart := false, laid := [("errors.errorType", laid_errors_errorType)], narrowed := true }
def KeeperOnceUptoSaid : Prop := keeperOnceUptoRow.holds Tryd.pinned (OpenSpec.upto keeperOnceSpec)

end Rows
end Go.Proofs.YtdjeajhkpkphbaaDoor
