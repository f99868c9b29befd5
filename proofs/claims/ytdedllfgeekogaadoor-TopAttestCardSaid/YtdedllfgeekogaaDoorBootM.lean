/- What is measured, in plain words: replayed it is the bank; fewer images come to a beginning of it. And boot.Run said in one. -/
import Derived.Test.YtdedllfgeekogaaDoorRows
import Derived.Test.YtdedllfgeekogaaDoorNum
import Derived.Test.YtdedllfgeekogaaDoorSeal
import Derived.Test.YtdedllfgeekogaaDoorKey
import Derived.Test.YtdedllfgeekogaaDoorEvent
import Derived.Test.YtdedllfgeekogaaDoorEvent2
import Derived.Test.YtdedllfgeekogaaDoorOpI
import Derived.Test.YtdedllfgeekogaaDoorImg
import Derived.Test.YtdedllfgeekogaaDoorImg2
import Derived.Test.YtdedllfgeekogaaDoorSign
import Derived.Test.YtdedllfgeekogaaDoorBootP
import Derived.Test.YtdedllfgeekogaaDoorBoot
import Derived.Test.YtdedllfgeekogaaDoorLiftT
import Derived.WalkKit
import Derived.WalkSpells
import Derived.Lib.Hide
namespace Go.Proofs.YtdedllfgeekogaaDoor
open Go.RowKit
set_option maxRecDepth 100000
set_option linter.unusedVariables false

theorem evBank_K {ss : List Sgn} : ∀ {k : Nat}, k ≤ 8 → evBank (evK ss k) = bankK ss k
  | 0, _ => rfl
  | k + 1, h => by
    rw [evK_step, evBank_snoc, evBank_K (by omega : k ≤ 8)]
    show (bankK ss k).set (k : Int).toNat _ = _
    rw [Int.toNat_natCast]
    exact bankK_step (by omega)
theorem evE_K {ss : List Sgn} {k : Nat} (h : k ≤ 8) : evE (evK ss k) = 0 := by
  unfold evE
  rw [evK_len, if_neg (by omega)]
  have : (evK ss k).all okEv = true := by
    rw [List.all_eq_true]
    intro e he
    unfold evK at he
    obtain ⟨i, hi, rfl⟩ := List.mem_map.1 he
    have hi := List.mem_range.1 hi
    have hr : okReg (i : Int) = true := decide_eq_true (by omega)
    unfold okEv
    rw [hr, sgW_ok]; rfl
  rw [if_pos this]
theorem repB_K {ss : List Sgn} {k : Nat} (h : k ≤ 8) : repB (evK ss k) = bankK ss k := by unfold repB; rw [if_pos (evE_K h)]; exact evBank_K h
theorem evK_at {ss : List Sgn} {m i : Nat} (h : i < m) : (evK ss m).getD i (0, 0) = ((i : Int), sgW (ss.getD i noSgn)) := by
  unfold evK
  rw [List.getD_eq_getElem?_getD, List.getElem?_map, List.getElem?_range h]; rfl
theorem take_at {ss : List Sgn} {k i : Nat} (h : i < k) : (ss.take k).getD i noSgn = ss.getD i noSgn := by
  rw [List.getD_eq_getElem?_getD, List.getD_eq_getElem?_getD, List.getElem?_take_of_lt h]
theorem firstE_zero : ∀ {ss : List Sgn}, (∀ i, i < ss.length → sgX (ss.getD i noSgn) = 0) → firstE ss = 0
  | [], _ => rfl
  | z :: r, h => by
    show (if sgX z = 0 then firstE r else sgX z) = 0
    have h0 : sgX z = 0 := h 0 (by simp)
    rw [if_pos h0]
    exact firstE_zero (fun i hi => h (i + 1) (by simpa using hi))
theorem bootE_mk {q : Int} {ss : List Sgn} (h1 : okIn q = true) (h2 : ss.length ≤ 8) (h3 : ∀ i, i < ss.length → sgX (ss.getD i noSgn) = 0) : bootE q ss = 0 := by
  unfold bootE
  rw [h1, if_pos rfl, if_neg (by omega)]
  exact firstE_zero h3
theorem bootE_take {q : Int} {ss : List Sgn} (h : bootE q ss = 0) (k : Nat) (hk : k ≤ ss.length) : bootE q (ss.take k) = 0 := by
  obtain ⟨h1, h2, h3⟩ := bootE_ok h
  have hl : (ss.take k).length = k := by rw [List.length_take]; omega
  exact bootE_mk h1 (by omega) (fun i hi => by rw [take_at (by omega)]; exact h3 i (by omega))
theorem BootIs.take {q : Int} {ss : List Sgn} {m n m' n' k : Nat} (h : BootIs q ss m n) (h' : BootIs q (ss.take k) m' n') (hk : k ≤ ss.length) : n' ≤ n ∧ m' ≤ m ∧ m' ≤ k := by
  have hl : (ss.take k).length = k := by rw [List.length_take]; omega
  obtain ⟨⟨h1, h2⟩, h3⟩ := h
  obtain ⟨⟨k1, k2⟩, k3⟩ := h'
  rw [hl] at k1 k3
  have e1 : n' ≤ n := by
    rcases Nat.lt_or_ge n n' with hlt | hge
    · exfalso
      rcases h3 with ⟨h3, _⟩ | ⟨_, _, h3⟩
      · omega
      · have := k2 n hlt
        rw [take_at (by omega)] at this
        exact h3 this
    · exact hge
  refine ⟨e1, ?_, ?_⟩
  · rcases k3 with ⟨k3, k4⟩ | ⟨k3, k4, k5⟩
    · rcases h3 with ⟨h3, h4⟩ | ⟨h3, h4, _⟩ <;> omega
    · rw [take_at k3] at k5
      have : n' = n := by
        rcases Nat.lt_or_ge n' n with hlt | hge
        · exact absurd (h2 n' hlt) k5
        · omega
      rcases h3 with ⟨h3, h4⟩ | ⟨h3, h4, _⟩ <;> omega
  · rcases k3 with ⟨k3, k4⟩ | ⟨k3, k4, k5⟩ <;> omega
theorem cellK_in {ss : List Sgn} {k i : Nat} (h : i < k) : cellK ss k i = pairM 0 (sgW (ss.getD i noSgn)) := by unfold cellK; rw [if_pos h]
theorem bankK_get {ss : List Sgn} {k i : Nat} (h : i < 8) : (bankK ss k).getD i 0 = cellK ss k i := by
  have e : i = 0 ∨ i = 1 ∨ i = 2 ∨ i = 3 ∨ i = 4 ∨ i = 5 ∨ i = 6 ∨ i = 7 := by omega
  rcases e with rfl | rfl | rfl | rfl | rfl | rfl | rfl | rfl <;> rfl

/-! Two that are signed, one that is not. -/
theorem right_mine (x k m : Int) (hx : okSecret x = true) (hk : okSecret k = true) (hm : okM m = true) : rightE (pwI 64 x) m (pwI 64 k) (sealA x k m) = 0 := by
  obtain ⟨x1, x2⟩ := okSecret_yes hx
  obtain ⟨k1, k2⟩ := okSecret_yes hk
  have i1 := key_in (x := x) (by omega) (by omega)
  have i2 := key_in (x := k) (by omega) (by omega)
  have hb := sealA_bd x k m
  unfold rightE okSeal
  have ha : okAns (sealA x k m) = true := decide_eq_true ⟨hb.1, hb.2⟩
  rw [i1, i2, hm, ha, seal_only x k m (sealA x k m) hx hk hb.1 hb.2]
  simp
def osN : ByteArray := ⟨#[111, 115]⟩
def sgn1 (P S : Int) : Sgn := (⟨#[111, 115]⟩, 1, ⟨#[]⟩, P, S)
def sgn2 : Sgn := (⟨#[111, 115]⟩, 2, ⟨#[]⟩, 0, 0)
theorem three_boot (P S : Int) : bootE (pwI 64 5) [sgn1 P S, sgn2, sgn1 P S] = 0 := by
  refine bootE_mk (key_in (x := 5) (by decide) (by decide)) (show 3 ≤ 8 by decide) (fun i hi => ?_)
  have e : i = 0 ∨ i = 1 ∨ i = 2 := by have : i < 3 := hi; omega
  have h1 : imgE ⟨#[111, 115]⟩ 1 ⟨#[]⟩ = 0 := by decide
  have h2 : imgE ⟨#[111, 115]⟩ 2 ⟨#[]⟩ = 0 := by decide
  rcases e with rfl | rfl | rfl
  · exact h1
  · exact h2
  · exact h1
theorem sgn1_ok : sgC (pwI 64 5) (sgn1 (pwI 64 7) (sealA 5 7 (imgM ⟨#[111, 115]⟩ 1 ⟨#[]⟩))) = 0 := by
  show signE (pwI 64 5) ⟨#[111, 115]⟩ 1 ⟨#[]⟩ (pwI 64 7) (sealA 5 7 (imgM ⟨#[111, 115]⟩ 1 ⟨#[]⟩)) = 0
  unfold signE
  rw [if_pos (by decide)]
  exact right_mine 5 7 _ (by decide) (by decide) (imgM_ok _ _ _)
theorem sgn2_no (q : Int) : sgC q sgn2 ≠ 0 := by
  show signE q ⟨#[111, 115]⟩ 2 ⟨#[]⟩ 0 0 ≠ 0
  unfold signE
  rw [if_pos (by decide)]
  unfold rightE okSeal
  have h0 : okIn 0 = false := by decide
  rw [h0]
  simp
theorem three_is : BootIs (pwI 64 5) [sgn1 (pwI 64 7) (sealA 5 7 (imgM ⟨#[111, 115]⟩ 1 ⟨#[]⟩)), sgn2, sgn1 (pwI 64 7) (sealA 5 7 (imgM ⟨#[111, 115]⟩ 1 ⟨#[]⟩))] 2 1 := by
  refine ⟨⟨show 1 ≤ 3 by decide, fun i hi => ?_⟩, Or.inr ⟨show 1 < 3 by decide, rfl, sgn2_no _⟩⟩
  obtain rfl : i = 0 := by omega
  exact sgn1_ok

def BootBoth (q : Int) (ss : List Sgn) (w : World) (e : Ending) (w' : World) : Prop :=
  ∃ (n : Nat) (A : Option Addr) (c : Nat) (es : List (Int × Int)) (y0 y1 y2 y3 y4 y5 y6 y7 : Int),
    e = .returned (.tuple #[.agg #[.int .i64 y0, .int .i64 y1, .int .i64 y2, .int .i64 y3, .int .i64 y4, .int .i64 y5, .int .i64 y6, .int .i64 y7], .slice A es.length c, .int .i64 n, errV (bootE q ss)]) ∧ EvsAt w' A es ∧
    (bootE q ss = 0 → BootIs q ss es.length n ∧ es = evK ss es.length ∧ [y0, y1, y2, y3, y4, y5, y6, y7] = bankK ss es.length) ∧ Below w.heap.size w w'
theorem bootRun_both (q : Int) (A : Option Addr) (ss : List Sgn) (c : Nat) (w : World) (hS : SgnsAt w A ss) (hl : ss.length ≤ 900000000000000)
    (hss : ∀ i, i < ss.length → (ss.getD i noSgn).1.size ≤ 140737488351232 ∧ (ss.getD i noSgn).2.2.1.size ≤ 140737488351232) (ht : TabT w) :
    Calls Tryd.prog 10 #[.int .i64 q, .slice A ss.length c] w (BootBoth q ss w) := by
  by_cases h : bootE q ss = 0
  · refine (bootRun_any q A ss c w hS hss h ht).mono ?_
    rintro e w' ⟨m, n, A2, c2, es, y0, y1, y2, y3, y4, y5, y6, y7, hI, hes, hy, he, hv, hb⟩
    subst hes
    refine ⟨n, A2, c2, _, y0, y1, y2, y3, y4, y5, y6, y7, by rw [h]; exact he, hv, fun _ => ?_, hb⟩
    rw [evK_len]
    exact ⟨hI, rfl, hy⟩
  · refine (bootRun_bad q A ss c w hS hl hss h).mono ?_
    rintro e w' ⟨he, hb⟩
    exact ⟨0, none, 0, [], 0, 0, 0, 0, 0, 0, 0, 0, he, EvsAt.nil_ _ _, fun h' => absurd h' h, hb⟩

theorem SgnsAt.three {w : World} {b : Nat} {t : TypeId} {x0 x1 x2 : Sgn} (h : Box w b t (sgnCs x0 ++ sgnCs x1 ++ sgnCs x2).toArray) : SgnsAt w (some ⟨b, 0, none⟩) [x0, x1, x2] := fun i hi => by
  refine ⟨b, 0, rfl, h.lt, fun j hj => ?_⟩
  rw [h.cell]
  have e : i = 0 ∨ i = 1 ∨ i = 2 := by have : i < 3 := hi; omega
  have e2 : j = 0 ∨ j = 1 ∨ j = 2 ∨ j = 3 ∨ j = 4 := by omega
  rcases e with rfl | rfl | rfl <;> rcases e2 with rfl | rfl | rfl | rfl | rfl <;> rfl


end Go.Proofs.YtdedllfgeekogaaDoor
