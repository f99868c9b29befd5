/- The row's last step for a law whose text reads a number, and that asks which error one is: three tables, errors.errorType and two errors of strconv's are listed. The cell of bytealg.MaxLen in a shaped world. The row's last step for a law that runs sessions: the tables, errors.errorType, two errors of strconv's, run.unread and two tables of utf8's are listed. -/
import Derived.Test.YtegiffdlfpdbkaaGreatDoorRows
import Derived.Test.YtegiffdlfpdbkaaGreatDoorLiftT
import Derived.Test.YtegiffdlfpdbkaaGreatDoorLiftD
import Derived.WalkKit
import Derived.ProofKit
import Derived.OpenShut
import Derived.HandedShaped
import Derived.LaidLaws
import Derived.LaidHandle
import Derived.LaidSub
import Derived.Lib.LaidTab
import Derived.Test.YtegiffdlfpdbkaaGreatDoorBase
import Derived.Shelf.Vars
import Derived.Test.YtegiffdlfpdbkaaGreatDoorParse
import Derived.Test.YtegiffdlfpdbkaaGreatDoorRun1
namespace Go.Proofs.YtegiffdlfpdbkaaGreatDoor
open Go.ChangeShapes Go.WideShapes Go.ChangeAt Go.RowKit

def LaidTDS : List (String × DataW Unit) := [("math/bits.deBruijn32tab", Rows.laid_math_bits_deBruijn32tab), ("math/bits.deBruijn64tab", Rows.laid_math_bits_deBruijn64tab), ("internal/strconv.uint64pow10", Rows.laid_internal_strconv_uint64pow10), ("errors.errorType", Rows.laid_errors_errorType), ("strconv.ErrRange", Rows.laid_strconv_ErrRange), ("strconv.ErrSyntax", Rows.laid_strconv_ErrSyntax)]
theorem tabTDS_of_laid {W : World} (h : laidMetH Tryz.prog LaidTDS W) : TabTD W := by
  refine ⟨tab_of_met rfl h, door_of_laid ?_⟩
  exact h.filter (fun x => x.1 == "errors.errorType")

abbrev rangeB : ByteArray := { data := #[118, 97, 108, 117, 101, 32, 111, 117, 116, 32, 111, 102, 32, 114, 97, 110, 103, 101] }
abbrev syntaxB : ByteArray := { data := #[105, 110, 118, 97, 108, 105, 100, 32, 115, 121, 110, 116, 97, 120] }
/-- So many blocks has the settled world. -/
noncomputable def lowS_ : Nat := (World.holding Tryz.prog default ⟨#[], #[], []⟩).heap.size
/-- A world that meets the condition: the settled one, two errors more, the tables laid. -/
noncomputable def laidWorldTDS0 (os : Os) : World :=
  let w0 := World.holding Tryz.prog os ⟨#[.cells #[.string rangeB] 183, .cells #[.string syntaxB] 183], #[], []⟩
  { w0 with heap := putG (putG (putG (putG (putG w0.heap 8 (tabV Rows.laid_math_bits_deBruijn32tab)) 9 (tabV Rows.laid_math_bits_deBruijn64tab)) 7 (tabV Rows.laid_internal_strconv_uint64pow10)) 6 #[.iface 181 (.pointer (some ⟨lowS_, 0, none⟩))]) 5 #[.iface 181 (.pointer (some ⟨lowS_ + 1, 0, none⟩))] }
noncomputable def laidWorldTDS (os : Os) : World :=
  let w0 := laidWorldTDS0 os
  { w0 with heap := w0.heap.modify 1 fun
      | .cells _ t frozen => .cells #[.iface 123 (.agg #[.pointer (some ⟨10, 50, none⟩)])] t frozen
      | o => o }
set_option maxRecDepth 100000 in
theorem laidWorldTDS_met (os : Os) (args : Array Value) : laidMetH Tryz.prog LaidTDS ((laidWorldTDS os).forCall (fun _ _ => 0) ⟨#[], args, []⟩).memory :=
  laidMetH_of_parts (laidMet_of_run' 8 (by kernel_rfl) (by kernel_rfl)) (by kernel_rfl)

end Go.Proofs.YtegiffdlfpdbkaaGreatDoor

namespace Go.Proofs.YtegiffdlfpdbkaaGreatDoor

theorem maxLen_cell {w : World} (h : w.ShapedOpen Tryz.prog) : ∃ m, w.cell? ⟨2, 0, none⟩ = some (.int .i64 m) :=
  Go.Proofs.cell_of_shapedOpen_int (zero := #[.int .i64 0]) (t := 3) h (of_decide_eq_true (by kernel_rfl)) (by kernel_rfl) rfl (by kernel_rfl) (by kernel_rfl) Tryz.underlying3

end Go.Proofs.YtegiffdlfpdbkaaGreatDoor

namespace Go.Proofs.YtegiffdlfpdbkaaGreatDoor
open Go.ChangeShapes Go.WideShapes Go.ChangeAt Go.RowKit
set_option maxRecDepth 100000
set_option linter.unusedVariables false

def LaidW : List (String × DataW Unit) := Rows.runAnswersRow.laid

theorem errW_of_met {W : World} {L : List (String × DataW Unit)} {n : String} {g : Nat} {t : TypeId} {ms : Array (String × TypeId)} {nm : String} {d : DataW Unit}
    (hg : Tryz.prog.globalNamed n = some g) (ht : (Tryz.prog.globals[g]?).map (·.type) = some t) (hi : Tryz.prog.underlying t = some (.interface ms))
    (hf : (L.filter fun x => x.1 == n) = [(n, .iface nm d)]) (hh : (DataW.iface nm d).handleName? = none) (h : laidMetH Tryz.prog L W) :
    ∃ ev, W.cell? ⟨g, 0, none⟩ = some ev ∧ (ev = .nilIface ∨ ∃ te pe, ev = .iface te pe) := by
  have h1 := h.filter (fun x => x.1 == n)
  rw [hf] at h1
  have h2 : laidMet Tryz.prog [(n, .iface nm d)] W := by
    unfold laidMetH at h1
    simpa [hh] using h1
  obtain ⟨ps, hv, _, _⟩ := h2
  obtain ⟨g', t', cs, fuel, p, q, e1, e2, e3, e4, _, _⟩ := hv
  obtain rfl := Option.some.inj (hg.symm.trans e1)
  obtain rfl := Option.some.inj (ht.symm.trans e2)
  obtain ⟨_, u, v, hcs, _, _⟩ := iface_of_trod hi e4
  have hc := World.var?_cell hg e3 0
  have e5 : cs[0]? = some (.iface u v) := by rw [← Array.getElem?_toList, hcs]; rfl
  refine ⟨.iface u v, ?_, Or.inr ⟨u, v, rfl⟩⟩
  rw [← e5]
  simpa using hc

theorem typeName_plain {P : Program} {nm : String} {tp : TypeId} (hrows : ((List.range P.types.size).all fun u => P.typeName? 3 u != some nm || u == tp) = true) (hstar : ∀ s : String, "*" ++ s ≠ nm)
    (u : TypeId) (hu : P.typeName? 3 u = some nm) : u = tp := by
  by_cases hlt : u < P.types.size
  · have := List.all_eq_true.1 hrows u (List.mem_range.2 hlt)
    simpa [hu] using this
  · exfalso
    unfold Program.typeName? at hu
    cases hi : P.info? u with
    | none => simp [hi] at hu
    | some i =>
      have hb := Tables.info?_beyond hlt hi
      simp only [hi] at hu
      cases hd : i.desc <;> simp only [hd, TypeDesc.tableOnly] at hu hb <;> try cases hb
      all_goals try cases hu
      rename_i e
      simp only [Option.map_eq_some_iff] at hu
      obtain ⟨n', _, hs⟩ := hu
      exact hstar n' hs

theorem unread_of_met {W : World} {L : List (String × DataW Unit)} (hf : (L.filter fun x => x.1 == "bootstair/run.unread") = [("bootstair/run.unread", Rows.laid_bootstair_run_unread)]) (h : laidMetH Tryz.prog L W) : UnreadT W := by
  have h1 := h.filter (fun x => x.1 == "bootstair/run.unread")
  rw [hf] at h1
  have hh : (Rows.laid_bootstair_run_unread : DataW Unit).handleName? = none := rfl
  have h2 : laidMet Tryz.prog [("bootstair/run.unread", Rows.laid_bootstair_run_unread)] W := by
    unfold laidMetH at h1
    simpa [hh] using h1
  obtain ⟨ps, hv, _, hok⟩ := h2
  obtain ⟨g', t', cs, fuel, p, q, e1, e2, e3, e4, e5, e6⟩ := hv
  have hg : Tryz.prog.globalNamed "bootstair/run.unread" = some 0 := by kernel_rfl
  have ht : (Tryz.prog.globals[0]?).map (·.type) = some 78 := by kernel_rfl
  obtain rfl := Option.some.inj (hg.symm.trans e1)
  obtain rfl := Option.some.inj (ht.symm.trans e2)
  obtain ⟨y0, n, hx, hl, hy⟩ := trod_struct1 Tryz.underlying78 e4
  have hc1 : Tryz.prog.cellsOf 78 = 1 := by kernel_rfl
  rw [hc1] at hl
  obtain ⟨c, hcs⟩ : ∃ c, cs = #[c] := by
    rcases cs with ⟨l⟩
    match l, hl with
    | [c], _ => exact ⟨c, rfl⟩
  subst hcs
  obtain ⟨y1, y2⟩ := y0
  have hx1 : y1 = .iface "bootstair/api.Errno" (.lit (.int .i64 2)) := by
    have hx2 := congrArg Prod.fst hx
    unfold Rows.laid_bootstair_run_unread at hx2
    simp only [DataW.agg.injEq, List.cons.injEq, and_true] at hx2
    exact hx2.symm
  subst hx1
  have he1 : Tryz.prog.cellsOf 50 = 1 := by kernel_rfl
  simp only [he1, List.drop_zero, List.take_succ_cons, List.take_zero] at hy
  obtain ⟨fuel2, u, v, hcv, hn, h3⟩ := iface_of_trod Tryz.underlying50 hy
  obtain rfl : c = .iface u v := by simpa using hcv
  obtain rfl : u = 79 := typeName_plain (tp := 79) (by kernel_rfl) (fun s hs => by
    have h9 := congrArg (fun x => x.toList.head?) hs
    simp [String.toList_append] at h9) u hn
  obtain ⟨m, hm1, hm2, _⟩ := DataW.trod_int Tryz.underlying79 h3
  have hm3 : m = 2 := by
    have h9 := congrArg Prod.fst hm2
    simp only [DataW.lit.injEq, Lit.int.injEq] at h9
    omega
  subst hm3
  have hcell : W.cell? ⟨0, 0, none⟩ = some (.iface 79 v) := by
    have := World.var?_cell hg e3 0
    simpa using this
  have hmem : MemPlace.cell 0 0 ∈ ps := by
    rw [e6]
    simp [MemPlace.row]
  have ho := (hok _ _ hmem).2 _ _ hcell
  have hv2 : v = .int .i64 2 := by
    unfold Value.okWide at ho
    simp only [Tryz.underlying79] at ho
    unfold Cell.okWide at ho
    cases v <;> simp [Value.cells, Cell.ok, Tryz.underlying79] at ho hm1
    obtain ⟨rfl, rfl⟩ := hm1
    rfl
  subst hv2
  exact hcell

def RunD (w : World) : Prop := TabTD w ∧ UnreadT w ∧ (∃ ev, w.cell? ⟨5, 0, none⟩ = some ev ∧ (ev = .nilIface ∨ ∃ te pe, ev = .iface te pe)) ∧ (∃ ev, w.cell? ⟨6, 0, none⟩ = some ev ∧ (ev = .nilIface ∨ ∃ te pe, ev = .iface te pe))
theorem tabW_of_laid {W : World} (h : laidMetH Tryz.prog LaidW W) : RunD W :=
  ⟨⟨tab_of_met rfl h, door_of_laid (h.filter (fun x => x.1 == "errors.errorType"))⟩, unread_of_met rfl h,
    errW_of_met (n := "strconv.ErrSyntax") (t := 50) (by kernel_rfl) (by kernel_rfl) Tryz.underlying50 (nm := "*errors.errorString") (d := .ptr (.agg [.lit (.string [105, 110, 118, 97, 108, 105, 100, 32, 115, 121, 110, 116, 97, 120])])) rfl rfl h,
    errW_of_met (n := "strconv.ErrRange") (t := 50) (by kernel_rfl) (by kernel_rfl) Tryz.underlying50 (nm := "*errors.errorString") (d := .ptr (.agg [.lit (.string [118, 97, 108, 117, 101, 32, 111, 117, 116, 32, 111, 102, 32, 114, 97, 110, 103, 101])])) rfl rfl h⟩
theorem RunD.read {w : World} (h : RunD w) (hs : w.ShapedOpen Tryz.prog) : ReadT w := ⟨h.1.1, maxLen_cell hs, h.2.2.1, h.2.2.2⟩

def flatW : DataW Unit → Array Value
  | .agg l => (l.flatMap fun d => match d with
    | .agg m => m.map litV
    | x => [litV x]).toArray
  | _ => #[]
/-- A world that meets the condition. -/
noncomputable def laidWorldW (os : Os) : World :=
  let w0 := laidWorldTDS os
  { w0 with heap := putG (putG (putG w0.heap 4 (flatW Rows.laid_unicode_utf8_acceptRanges)) 3 (flatW Rows.laid_unicode_utf8_first)) 0 #[.iface 79 (.int .i64 2)] }
theorem laidWorldW_met (os : Os) (args : Array Value) : laidMetH Tryz.prog LaidW ((laidWorldW os).forCall (fun _ _ => 0) ⟨#[], args, []⟩).memory :=
  laidMetH_of_parts (laidMet_of_run' 8 (by kernel_rfl) (by kernel_rfl)) (by kernel_rfl)

end Go.Proofs.YtegiffdlfpdbkaaGreatDoor
