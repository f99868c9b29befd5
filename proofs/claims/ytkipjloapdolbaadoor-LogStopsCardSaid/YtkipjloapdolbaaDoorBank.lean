/- The walks of package bank. -/
import Derived.Test.YtkipjloapdolbaaDoorRows
import Derived.Test.YtkipjloapdolbaaDoorNum
import Derived.Test.YtkipjloapdolbaaDoorBase
import Derived.Test.YtkipjloapdolbaaDoorMeas
import Derived.Test.YtkipjloapdolbaaDoorApp
import Derived.WalkKit
import Derived.Lib.Hide
namespace Go.Proofs.YtkipjloapdolbaaDoor
open Go.RowKit


theorem any_take_step {xs : List Int} {pr : Int → Bool} (k : Nat) (h : k < xs.length) (hp : (xs.take k).any pr = false) (hk : pr (xs.getD k 0) = false) : (xs.take (k + 1)).any pr = false := by
  rw [take_snoc xs 0 k h, List.any_append, hp, List.any_cons, List.any_nil, hk]; rfl
theorem any_at {xs : List Int} {pr : Int → Bool} (k : Nat) (h : k < xs.length) (hk : pr (xs.getD k 0) = true) : xs.any pr = true := by
  rw [List.any_eq_true]
  refine ⟨xs.getD k 0, ?_, hk⟩
  rw [List.getD_eq_getElem?_getD, List.getElem?_eq_getElem h]; exact List.getElem_mem h

/-- Where something is so: an index from 0 on just if any is. -/
def IndexPost (b : Bool) (w : World) (e : Ending) (w' : World) : Prop := ∃ i : Int, e = .returned (.int .i64 i) ∧ -1 ≤ i ∧ i ≤ 9223372036854775806 ∧ (b = true → 0 ≤ i) ∧ (b = false → i < 0) ∧ w = w'








theorem bit_fact (m : Int) (k : Nat) (d : Int) (hd : d = 2 ^ k) (h0 : 0 ≤ m) (h1 : m ≤ 255) : (bits .and .i64 (m / d) 1 == 1) = bitM m k := by
  subst hd
  obtain ⟨m, rfl⟩ := Int.eq_ofNat_of_zero_le h0
  have e : ((m : Int) / 2 ^ k) = ((m / 2 ^ k : Nat) : Int) := by rw [Int.natCast_ediv, Int.natCast_pow]; rfl
  have hlt : m / 2 ^ k < 9223372036854775808 := Nat.lt_of_le_of_lt (Nat.div_le_self _ _) (by omega)
  unfold bitM
  rw [e, and_one_i64 _ hlt]
  rfl

def ToldPost (b : List Int) (m : Int) (w : World) (e : Ending) (w' : World) : Prop :=
  ∃ A c zs, e = .returned (.slice A zs.length c) ∧ zs = toldM b m ∧ IntsAt w' A zs ∧ Below w.heap.size w w'




end Go.Proofs.YtkipjloapdolbaaDoor
