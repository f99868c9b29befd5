/- A region that draws its order, whose operations read, and whose callees keep a class of worlds: one walk, in the order of the text. -/
import Derived.Test.YtegiffdlfpdbkaaGreatDoorRows
import Derived.Test.YtegiffdlfpdbkaaGreatDoorBase
import Derived.WalkKit
import Derived.Deep.QuietTactic
import Derived.BigQuiet
namespace Go.Proofs.YtegiffdlfpdbkaaGreatDoor
open Go.RowKit
set_option maxRecDepth 100000

theorem region_quiet {P : Program} {id : Nat} {Q : Exit → Act → World → Prop} {a : Act} {w : World} {l : List Oper} (C : World → Prop) (hm : P.follows .mixedOrders = true) (hB : Region.lexB .any l.toArray = true) (hC : C w.drew)
    (h : wpQuiet P l.toArray C (fun a' => ∀ w', C w' → Q .normal a' w') l a) : (Code.region id l.toArray true).wp P Q a w :=
  wp_region_quiet (C := C) hm hB hC (by simpa using h)
theorem quiet_class {P : Program} {f : FuncId} {args : Array Value} {w : World} {v : Value} {C D : World → Prop} (h : Calls P f args w fun e w' => e = .returned v ∧ D w') (hd : ∀ w', D w' → C w') :
    Calls P f args w fun e w' => e = .returned v ∧ C w' := h.mono fun _ _ k => ⟨k.1, hd _ k.2⟩

end Go.Proofs.YtegiffdlfpdbkaaGreatDoor
