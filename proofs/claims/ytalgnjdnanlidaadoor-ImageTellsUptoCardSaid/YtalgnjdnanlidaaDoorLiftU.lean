/- The row's last step for a law of bounded bulk whose text is read in words: the bound, the tables and strconv's errors are handed to the walk. -/
import Derived.Test.YtalgnjdnanlidaaDoorRows
import Derived.Test.YtalgnjdnanlidaaDoorTie
import Derived.Test.YtalgnjdnanlidaaDoorCards
import Derived.Test.YtalgnjdnanlidaaDoorLift
import Derived.Test.YtalgnjdnanlidaaDoorLiftD
import Derived.Test.YtalgnjdnanlidaaDoorLiftI
import Derived.Test.YtalgnjdnanlidaaDoorReadL
import Derived.Test.YtalgnjdnanlidaaDoorParse
import Derived.Test.YtalgnjdnanlidaaDoorOpen
import Derived.WalkKit
import Derived.ProofKit
import Derived.OpenShut
import Derived.LaidLaws
import Derived.LaidHandle
import Derived.LaidSub
import Derived.SevenTiedAt
import Derived.Deep.DeepHandedRow
namespace Go.Proofs.YtalgnjdnanlidaaDoor
open Go.ChangeShapes Go.WideShapes Go.ChangeAt Go.RowKit
open Go.ChangeMaps (open_string)
set_option maxRecDepth 100000
set_option linter.unusedVariables false

theorem err_of_met {W : World} {L : List (String × DataW Unit)} {n : String} {g : Nat} {t : TypeId} {ms : Array (String × TypeId)} {nm : String} {d : DataW Unit}
    (hg : Tryd.prog.globalNamed n = some g) (ht : (Tryd.prog.globals[g]?).map (·.type) = some t) (hi : Tryd.prog.underlying t = some (.interface ms))
    (hf : (L.filter fun x => x.1 == n) = [(n, .iface nm d)]) (hh : (DataW.iface nm d).handleName? = none) (h : laidMetH Tryd.prog L W) :
    ∃ ev, W.cell? ⟨g, 0, none⟩ = some ev ∧ (ev = .nilIface ∨ ∃ te pe, ev = .iface te pe) := by
  have h1 := h.filter (fun x => x.1 == n)
  rw [hf] at h1
  have h2 : laidMet Tryd.prog [(n, .iface nm d)] W := by
    unfold laidMetH at h1
    simpa [hh] using h1
  obtain ⟨ps, hv, _, _⟩ := h2
  obtain ⟨g', t', cs, fuel, p, q, e1, e2, e3, e4, _, _⟩ := hv
  obtain rfl := Option.some.inj (hg.symm.trans e1)
  obtain rfl := Option.some.inj (ht.symm.trans e2)
  obtain ⟨_, u, v, hcs, _, _⟩ := iface_of_trod hi e4
  have hc := World.var?_cell hg e3 0
  have e5 : cs[0]? = some (.iface u v) := by rw [← Array.getElem?_toList, hcs]; rfl
  refine ⟨.iface u v, ?_, Or.inr ⟨u, v, rfl⟩⟩
  rw [← e5]
  simpa using hc

theorem readT_of_met {W : World} {L : List (String × DataW Unit)} (h1 : (L.filter fun x => x.1 == "internal/strconv.uint64pow10") = [("internal/strconv.uint64pow10", Lib.tabData .u64 Lib.pow10Tab)])
    (h2 : (L.filter fun x => x.1 == "strconv.ErrSyntax") = [("strconv.ErrSyntax", Rows.laid_strconv_ErrSyntax)]) (h3 : (L.filter fun x => x.1 == "strconv.ErrRange") = [("strconv.ErrRange", Rows.laid_strconv_ErrRange)])
    (h : laidMetH Tryd.prog L W) (hs : W.ShapedOpen Tryd.prog) : ReadT W :=
  ⟨tab_of_met h1 h, maxLen_cell hs, err_of_met (t := 25) (by kernel_rfl) (by kernel_rfl) Tryd.underlying25 h2 rfl h, err_of_met (t := 25) (by kernel_rfl) (by kernel_rfl) Tryd.underlying25 h3 rfl h⟩

theorem readI_of_laid {W : World} (h : laidMetH Tryd.prog LaidI W) (hs : W.ShapedOpen Tryd.prog) : ReadT W := readT_of_met rfl rfl rfl h hs

theorem bulk_part {H : Type} : ∀ {l : List (DataW H)} {d : DataW H}, d ∈ l → Rows.uptoBulk d ≤ Rows.uptoBulkAll l
  | x :: r, d, h => by
    simp only [Rows.uptoBulkAll]
    cases List.mem_cons.1 h with
    | inl e => subst e; omega
    | inr e => have := bulk_part e; omega
theorem op_strU {H : Type} {enc : TypeId × Value → H} {w : World} {b0 : Nat} {v : Value} {d : DataW H} {ps : List MemPlace}
    (hv : Value.okWide Tryd.prog w .any b0 9 v) (h : DataW.Trod enc Tryd.prog w 0 (fun _ => true) true 9 v d ps) {l : List (DataW H)} (hl : Rows.uptoBulkAll l ≤ 1048576) (hd : d ∈ l) : ∃ s, v = .string s ∧ s.size ≤ 1048576 := by
  obtain ⟨s, rfl, rfl, _, _⟩ := open_string Tryd.underlying9 hv h
  have := bulk_part hd
  simp only [Rows.uptoBulk] at this
  have e : s.data.toList.length = s.size := by rw [Array.length_toList]; rfl
  exact ⟨s, rfl, by omega⟩

/-- What a walk of such a law owes. -/
def WalksU {H : Type} (enc : TypeId × Value → H) (P : Program) (D : World → Prop) (f : FuncId) (fn : Func) : Prop :=
  ∀ (W : World) (base : Nat) (args : Array Value) (ds : List (DataW H)) (p : List MemPlace),
    (∀ (j : Nat) t v, fn.params[j]? = some t → args[j]? = some v → Value.okWide P W .any base t v) →
    DataW.TrodAll enc P W 0 (fun _ => true) true fn.params.toList args.toList ds p →
    (∀ x ∈ p, x.block < W.heap.size) →
    Rows.uptoBulkAll ds ≤ 1048576 →
    (DataW.weightsEach P fn.params.toList ds).all (· ≤ reachBytes) = true →
    D W →
    Calls P f args W fun e W' => e = .returned (.bool true) ∧ Below W.heap.size W W'

theorem returns_of_walkU {H : Type} {enc : TypeId × Value → H} {C : Checked} {os : Os} {f : FuncId} {fn : Func} {s : ChangeSpec} {tb : TypeId} {L : List (String × DataW Unit)} {D : World → Prop} {F : Stop.Interp}
    (ow : ownKnob C.prog.godebug = none) (started : os.Started) (noInit : C.prog.inits.idxOf? f = none) (hfn : C.prog.funcs[f]? = some fn)
    (witness : ∃ (w : World) (tape : Tape) (i : Input), w.os = os ∧ (w.forCall tape i).Shaped C.prog ∧ i.vars = [] ∧ Input.okWide C.prog (w.forCall tape i) .any w.heap.size f i ∧
      (Rows.OpenSpec.upto s).preRow enc C.prog fn [] false L (w.forCall tape i).memory i.args ∧ ({} : Assume).holds C.prog (lone (Frame.enter C.prog f i.args .normal) [] (w.forCall tape i)))
    (hD : ∀ W : World, laidMetH C.prog L W → W.ShapedOpen C.prog → D W)
    (hl : laidOutB C.prog = true) (hps : (fn.params.toList.all fun t => C.prog.readableRec t && decide (t < C.prog.types.size)) = true)
    (hrt : fn.resultTypes = #[tb]) (htb : C.prog.underlying tb = some .bool) (hv : s.vars = [])
    (hs : ∀ ds : List (DataW H), ds.length = fn.params.toList.length → s.fn H ds = { results := [.lit (.bool true)], args := ds })
    (walk : WalksU enc C.prog D f fn) :
    ReturnsInHanded {} C os f .any ((Rows.OpenSpec.upto s).preRow enc C.prog fn [] false L) (((Rows.OpenSpec.upto s).at F).post enc C.prog fn false true false false) := by
  refine returnsInHanded_of_row (C := C) (s := Rows.OpenSpec.upto s) ow started noInit hfn witness ?_
  intro W base args ds gs before hval hW _ hcond hsz hL hsh _
  have hbulk : Rows.uptoBulkAll (ds ++ gs) ≤ 1048576 := of_decide_eq_true (hcond _ rfl)
  have hW' := hW
  have hlt : ∀ x ∈ before, x.block < W.heap.size := fun x hx => hW.lt x hx
  obtain ⟨p, q, hA, hV, rfl, hfz, hnd⟩ := hW
  have hv2 : (Rows.OpenSpec.upto s).vars = [] := hv
  rw [hv2] at hV
  obtain ⟨rfl, rfl⟩ := trodVars_none hV
  have hvt : (Rows.OpenSpec.upto s).bare.plain.varTypes C.prog = [] := by simp [DataSpec.varTypes, ChangeSpec.plain, OpenSpec.bare, Rows.OpenSpec.upto, OpenSpec.ofChange, hv]
  rw [hvt] at hsz
  simp only [List.append_nil] at hsz hlt hbulk
  refine (walk W base args ds p hval hA hlt hbulk hsz (hD W hL hsh)).mono fun e W' ⟨he, hb⟩ => ⟨_, he, ?_⟩
  have e1 : s.fn H (ds ++ []) = { results := [.lit (.bool true)], args := ds } := by rw [List.append_nil]; exact hs ds (trodAll_length hA)
  have hargs : ∀ sp : Nat → Bool, (∀ x ∈ p, sp x.block = true) → DataW.TrodAll enc C.prog W' 0 sp true fn.params.toList args.toList ds p :=
    fun sp hsp => trodAll_stays hl hps hA (fun x hx => hb.same (hlt x hx)) hsp
  have hres : ∀ (b : Nat) (sp : Nat → Bool) (hd : Bool), DataW.TrodAll enc C.prog W' b sp hd fn.resultTypes.toList ((Value.bool true).resultList fn.resultTypes.size) [.lit (.bool true)] [] := by
    intro b sp hd
    rw [hrt]
    exact trodAll_mk1 (shut_bool htb _)
  have hok := ok_one (P := C.prog) (W' := W') (f := fn) hrt rfl (okWide_bool_mk htb true)
  show s.post enc C.prog fn false true false false W args (.bool true) W'
  rw [hv2] at hW'
  exact ⟨ds, [], p ++ [], [], p, [], by rw [hv]; exact hW', by rw [e1]; exact hres _ _ _, by rw [e1]; exact hargs _ (fun x hx => by simpa using hlt x hx), by rw [e1, hv]; exact rfl,
    World.keptBut_mono (fun x hx => ⟨hx, Or.inr (by simpa using hx)⟩) (hb.frame (· ∈ p ++ [])), fun h => by cases h⟩

end Go.Proofs.YtalgnjdnanlidaaDoor
