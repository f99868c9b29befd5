/- run: numbers of words, what is said of a number and of yes or no. -/
import Derived.Test.YtegiffdlfpdbkaaGreatDoorRows
import Derived.Test.YtegiffdlfpdbkaaGreatDoorNum
import Derived.Test.YtegiffdlfpdbkaaGreatDoorBase
import Derived.Test.YtegiffdlfpdbkaaGreatDoorApp
import Derived.Test.YtegiffdlfpdbkaaGreatDoorFoot
import Derived.Test.YtegiffdlfpdbkaaGreatDoorImg
import Derived.Test.YtegiffdlfpdbkaaGreatDoorImg2
import Derived.Test.YtegiffdlfpdbkaaGreatDoorNumP
import Derived.Test.YtegiffdlfpdbkaaGreatDoorWordsA
import Derived.Test.YtegiffdlfpdbkaaGreatDoorParse
import Derived.Test.YtegiffdlfpdbkaaGreatDoorRefCut
import Derived.Test.YtegiffdlfpdbkaaGreatDoorRefL
import Derived.Test.YtegiffdlfpdbkaaGreatDoorRefNum
import Derived.Test.YtegiffdlfpdbkaaGreatDoorCntP
import Derived.Test.YtegiffdlfpdbkaaGreatDoorRunP
import Derived.Test.YtegiffdlfpdbkaaGreatDoorLiftT
import Derived.Test.YtegiffdlfpdbkaaGreatDoorShelf
import Derived.WalkKit
import Derived.WalkSpells
import Derived.WalkLawsBesides
import Derived.Lib.Hide
import Derived.Lib.AtoiBound
import Derived.BigQuiet
import Derived.Deep.QuietTactic
import Derived.Deep.RegionHeld3
import Derived.Deep.DeepCutAuto
namespace Go.Proofs.YtegiffdlfpdbkaaGreatDoor
open Go.RowKit
set_option maxRecDepth 100000
set_option linter.unusedVariables false
set_option linter.unusedSimpArgs false

theorem list_bytes (s : ByteArray) : s.toList = s.data.toList := bytes_list s
theorem heldE_eql (t : TypeId) (p : Addr) (w : World) : (binOp .eql 50 (.iface t (.pointer (some p))) .nilIface).run Tryz.prog w = .ok (.bool false) w := by kernel_rfl
theorem heldE_guard (o : Nat) (t : TypeId) (p : Addr) (w : World) : (eqGuard .eql 50 (.tmp o) (.const .nilIface) (.iface t (.pointer (some p))) .nilIface).run Tryz.prog w = .ok () w := by kernel_rfl
theorem nilE_eql (w : World) : (binOp .eql 50 .nilIface .nilIface).run Tryz.prog w = .ok (.bool true) w := by kernel_rfl
theorem nilE_guard (o : Nat) (w : World) : (eqGuard .eql 50 (.tmp o) (.const .nilIface) .nilIface .nilIface).run Tryz.prog w = .ok () w := by kernel_rfl
def NumPost (s : ByteArray) (w : World) (e : Ending) (w' : World) : Prop := (∃ n : Int, e = .returned (.tuple #[.int .i64 n, .bool (numK 7 s).2]) ∧ ((numK 7 s).2 = true → n = (numK 7 s).1)) ∧ Below w.heap.size w w'
theorem num_off {s : ByteArray} (h : ¬ (s.size ≤ 7 ∧ canN s.data.toList = true)) : (numK 7 s).2 = false := by rw [numK_no h]

set_option maxHeartbeats 1000000 in
theorem number_any (s : ByteArray) (w : World) (hs : s.size ≤ 1048576) (h : ReadT w) :
    Calls Tryz.prog 58 #[.string s] w (NumPost s w) := by
  have hlen : s.data.toList.length = s.size := by simp
  have HR := Lib.hid h
  have hat := atoi_any s w hs h
  clear h
  rcases ha : Lib.atoiAll s.data.toList with n | _ | _
  · unfold atoiR at hat
    rw [ha] at hat
    have HA := Lib.hid hat
    have n1 := nilE_eql
    have n2 := nilE_guard
    clear hat
    by_cases h0 : 0 ≤ n
    · by_cases h7 : s.size ≤ 7
      · have hz : (s.size : Int) ≤ 7 := by omega
        by_cases hi : Lib.itoa n = s.data.toList
        · obtain ⟨c1, c2⟩ := (parse_num7 s.data.toList n (by omega)).1 ⟨ha, h0, hi⟩
          have HN : Hid (numK 7 s = (n, true)) := Lib.hid (by rw [numK_yes ⟨h7, c1⟩, c2])
          have hb : ((itoaS n).toList == s.toList) = true := by rw [list_bytes, list_bytes, show (itoaS n).data.toList = Lib.itoa n from rfl, hi]; simp
          have hn9 : n ≤ 9223372036854775807 := by
            have h2 := (atoi_can7 c1 (by omega)).2
            have h4 : 10 ^ s.data.toList.length ≤ 10 ^ 7 := Nat.pow_le_pow_right (by decide) (by omega)
            omega
          clear c1 c2 hi ha h7 hlen
          go_enter Tryz.func58, Tryz.ntmps58
          go_wp2_with fail
          refine HA.out.mono ?_
          rintro e w1 ⟨rfl, hb1⟩
          go_wp2_with fail
          refine (itoa9_any n _ (by omega) hn9 (HR.out.below hb1).1).mono ?_
          rintro e w2 ⟨rfl, hb2⟩
          go_wp2_with fail
          go_ret2
          exact ⟨⟨n, by rw [HN.out]; rfl, fun _ => by rw [HN.out]⟩, grow_step hb1 hb2⟩
        · have HN : Hid ((numK 7 s).2 = false) := Lib.hid (num_off (fun h => hi (by
            have h2 := (atoi_can7 h.2 (by omega)).1
            rw [ha] at h2
            injection h2 with h2
            exact ((parse_num7 s.data.toList n (by omega)).2 ⟨h.2, h2⟩).2.2)))
          have hb : ((itoaS n).toList == s.toList) = false := by
            rw [list_bytes, list_bytes, show (itoaS n).data.toList = Lib.itoa n from rfl]
            simpa using hi
          have HB : Hid (n ≤ 9223372036854775807) := Lib.hid (Lib.atoiAll_bounds ha).2
          clear hi ha h7 hlen
          go_enter Tryz.func58, Tryz.ntmps58
          go_wp2_with fail
          refine HA.out.mono ?_
          rintro e w1 ⟨rfl, hb1⟩
          go_wp2_with fail
          refine (itoa9_any n _ (by omega) HB.out (HR.out.below hb1).1).mono ?_
          rintro e w2 ⟨rfl, hb2⟩
          go_wp2_with fail
          go_ret2
          exact ⟨⟨n, by rw [HN.out]; rfl, fun h => by rw [HN.out] at h; cases h⟩, grow_step hb1 hb2⟩
      · have hz : ¬ (s.size : Int) ≤ 7 := by omega
        have HN : Hid ((numK 7 s).2 = false) := Lib.hid (num_off (fun h => h7 h.1))
        clear ha h7 hlen
        go_enter Tryz.func58, Tryz.ntmps58
        go_wp2_with fail
        refine HA.out.mono ?_
        rintro e w1 ⟨rfl, hb1⟩
        go_wp2_with fail
        go_ret2
        exact ⟨⟨n, by rw [HN.out]; rfl, fun h => by rw [HN.out] at h; cases h⟩, hb1⟩
    · have HN : Hid ((numK 7 s).2 = false) := Lib.hid (num_off (fun h => by
        have h2 := (atoi_can7 h.2 (by omega)).1
        rw [ha] at h2
        injection h2 with h2
        omega))
      clear ha hlen
      go_enter Tryz.func58, Tryz.ntmps58
      go_wp2_with fail
      refine HA.out.mono ?_
      rintro e w1 ⟨rfl, hb1⟩
      go_wp2_with fail
      go_ret2
      exact ⟨⟨n, by rw [HN.out]; rfl, fun h => by rw [HN.out] at h; cases h⟩, hb1⟩
  · unfold atoiR at hat
    rw [ha] at hat
    have HA := Lib.hid hat
    have HN : Hid ((numK 7 s).2 = false) := Lib.hid (num_off (fun h => by
      have h2 := (atoi_can7 h.2 (by omega)).1
      rw [ha] at h2
      cases h2))
    have n1 := heldE_eql
    have n2 := heldE_guard
    clear hat ha hlen
    go_enter Tryz.func58, Tryz.ntmps58
    go_wp2_with fail
    refine HA.out.mono ?_
    rintro e w1 ⟨⟨n, t, p, rfl⟩, hb1⟩
    go_wp2_with fail
    go_ret2
    exact ⟨⟨n, by rw [HN.out]; rfl, fun h => by rw [HN.out] at h; cases h⟩, hb1⟩
  · unfold atoiR at hat
    rw [ha] at hat
    have HA := Lib.hid hat
    have HN : Hid ((numK 7 s).2 = false) := Lib.hid (num_off (fun h => by
      have h2 := (atoi_can7 h.2 (by omega)).1
      rw [ha] at h2
      cases h2))
    have n1 := heldE_eql
    have n2 := heldE_guard
    clear hat ha hlen
    go_enter Tryz.func58, Tryz.ntmps58
    go_wp2_with fail
    refine HA.out.mono ?_
    rintro e w1 ⟨⟨n, t, p, rfl⟩, hb1⟩
    go_wp2_with fail
    go_ret2
    exact ⟨⟨n, by rw [HN.out]; rfl, fun h => by rw [HN.out] at h; cases h⟩, hb1⟩

/-- The package's own fault, and the cell that it is read from. -/
abbrev badV : Value := .iface 78 (.agg #[.iface 79 (.int .i64 2)])
def UnreadT (w : World) : Prop := w.cell? ⟨0, 0, none⟩ = some (.iface 79 (.int .i64 2))
theorem UnreadT.lt {w : World} (h : UnreadT w) : 0 < w.heap.size := World.block_lt_of_cell? w _ h
theorem UnreadT.below {w w' : World} (h : UnreadT w) (hb : Below w.heap.size w w') : UnreadT w' := (hb.cell (p := ⟨0, 0, none⟩) h.lt).trans h
theorem numsOf_cons (s : ByteArray) (r : List ByteArray) : numsOf (s :: r) = if (numK 7 s).2 = true then (numsOf r).map ((numK 7 s).1 :: ·) else none := rfl
theorem numsOf_app : ∀ (a b : List ByteArray), numsOf (a ++ b) = (match numsOf a with
    | some x => (numsOf b).map (x ++ ·)
    | none => none)
  | [], b => by
    show numsOf b = (numsOf b).map ([] ++ ·)
    cases numsOf b <;> rfl
  | s :: a, b => by
    have ih := numsOf_app a b
    rw [List.cons_append, numsOf_cons, numsOf_cons]
    by_cases h : (numK 7 s).2 = true
    · rw [if_pos h, if_pos h, ih]
      cases numsOf a with
      | none => rfl
      | some x => cases numsOf b <;> rfl
    · rw [if_neg h, if_neg h]
theorem numsOf_one {s : ByteArray} {n : Int} (h : (numK 7 s).2 = true) (e : n = (numK 7 s).1) : numsOf [s] = some [n] := by
  unfold numsOf
  rw [if_pos h, e]; rfl
theorem numsOf_bad {a b : List ByteArray} {s : ByteArray} (h : (numK 7 s).2 = false) : numsOf (a ++ s :: b) = none := by
  rw [numsOf_app]
  have e : numsOf (s :: b) = none := by unfold numsOf; rw [h, if_neg (by decide)]
  rw [e]
  cases numsOf a <;> rfl
def NumsPost (ls : List ByteArray) (w : World) (e : Ending) (w' : World) : Prop :=
  (∀ ns, numsOf ls = some ns → ∃ A c, e = .returned (.tuple #[.slice A ns.length c, .nilIface]) ∧ OwnI w' w.heap.size A c ns) ∧ (numsOf ls = none → e = .returned (.tuple #[.slice none 0 0, badV])) ∧ Below w.heap.size w w'

set_option maxHeartbeats 1000000 in
theorem numbers_any (A : Option Addr) (c : Nat) (ls : List ByteArray) (w : World) (hA : CellsAt w A (strCells ls)) (hz : ∀ i, i < ls.length → (ls.getD i tNil).size ≤ 1048576) (hl : ls.length ≤ 4000) (hR : ReadT w) (hU : UnreadT w) :
    Calls Tryz.prog 47 #[.slice A ls.length c] w (NumsPost ls w) := by
  have HA := Lib.hid hA
  have HZ := Lib.hid hz
  have HR := Lib.hid hR
  have HU := Lib.hid hU
  clear hA hz hR hU
  go_enter Tryz.func47, Tryz.ntmps47
  go_wp2_with fail
  go_loopw [4, 6, 7, 8, 11] (fun out _ _ _ i wr => ∃ (k n1 : Nat) (A1 : Option Addr) (c1 : Nat) (ns : List Int), out = .slice A1 n1 c1 ∧ i = .int .i64 k ∧ k ≤ ls.length ∧ n1 ≤ 4000 ∧ Hid (n1 = ns.length) ∧ Hid (ns.length = k) ∧ Hid (numsOf (ls.take k) = some ns) ∧ Hid (OwnI wr w.heap.size A1 c1 ns) ∧ Below w.heap.size w wr) (fun _ _ _ _ i _ => ls.length - (intOf i).toNat)
  case atStart => exact ⟨0, 0, none, 0, [], rfl, rfl, by omega, by omega, Lib.hid rfl, Lib.hid rfl, Lib.hid rfl, Lib.hid (OwnI.start _ _), grow_refl _⟩
  case round =>
    obtain ⟨k, n1, A1, c1, ns, rfl, rfl, hk, hn1, HN1, HNK, HNS, HO, hb⟩ := hrel
    by_cases hlt : k < ls.length
    · have g1 : (k : Int) < (ls.length : Int) := by omega
      obtain ⟨s, hs⟩ : ∃ s, ls.getD k tNil = s := ⟨_, rfl⟩
      have hls : ls = ls.take k ++ s :: ls.drop (k + 1) := by
        have h1 := (List.take_append_drop k ls).symm
        rw [drop_cons ls tNil k hlt, hs] at h1
        exact h1
      obtain ⟨b0, off, rfl, lb0, hc0⟩ := HA.out k (.string s) (by
        unfold strCells
        rw [List.getElem?_map, List.getElem?_eq_getElem hlt, ← hs, List.getD_eq_getElem?_getD, List.getElem?_eq_getElem hlt]; rfl)
      have hc := (hb.cell (p := ⟨b0, off + k, none⟩) lb0).trans hc0
      have lb1 := Nat.lt_of_lt_of_le lb0 hb.size
      have hsz := HZ.out k hlt
      rw [hs] at hsz
      have HNM := Lib.hid (number_any s wr hsz (HR.out.below hb))
      unfold NumPost at HNM
      have HTK : Hid (ls.take (k + 1) = ls.take k ++ [s]) := Lib.hid (by
        rw [List.take_succ_eq_append_getElem hlt, ← hs, List.getD_eq_getElem?_getD, List.getElem?_eq_getElem hlt]; rfl)
      have HLS := Lib.hid hls
      have HHS := Lib.hid hs
      clear hs hls hlt hc0 hsz
      cases hok : (numK 7 s).2
      · rw [hok] at HNM
        have HX : Hid (numsOf ls = none) := Lib.hid (by rw [HLS.out]; exact numsOf_bad hok)
        go_wp2_with fail
        refine HNM.out.mono ?_
        rintro e w1 ⟨⟨n, rfl, _⟩, hb1⟩
        have hw1 : Below w.heap.size w w1 := grow_step hb hb1
        have hu : w1.cell? ⟨0, 0, none⟩ = some (.iface 79 (.int .i64 2)) := HU.out.below hw1
        have lu : 0 < w1.heap.size := (HU.out.below hw1).lt
        clear hc lb1 hb1 hok
        go_wp2_with fail
        go_quiet (fail)
        go_wp2_with fail
        go_ret2
        exact ⟨(fun ns h => by rw [HX.out] at h; cases h), (fun _ => rfl), grow_drewN hw1 _⟩
      · rw [hok] at HNM
        have HOK := Lib.hid hok
        go_wp2_with fail
        refine HNM.out.mono ?_
        rintro e w1 ⟨⟨n, rfl, hn⟩, hb1⟩
        have hw1 : Below w.heap.size w w1 := grow_step hb hb1
        have HO1 := Lib.hid (HO.out.below hb1)
        have HNN := Lib.hid (hn (by first | rfl | trivial))
        obtain rfl : n1 = ns.length := HN1.out
        clear hc lb1 hb1 hok hn HO
        go_wp2_with (at_builtin; refine app_ints rfl _ _ rfl w.heap.size A1 c1 ns rfl (HO1.out.below ((Below.refl _ _).alloc (Nat.le_refl _) _)) _ 1 [n] rfl (IntsAt.new_ _ _ [n] _) (by simp; omega) (grow_alloc hw1 _).size ?_; intro A2 c2 zs2 w2 hz2 ho2 hb2)
        have hw2 : Below w.heap.size w w2 := grow_base (grow_alloc hw1 _) hb2
        go_roundw
        case rel =>
          refine ⟨k + 1, zs2.length, A2, c2, zs2, rfl, rfl, by omega, by rw [hz2.out]; simp; have := HNK.out; omega, Lib.hid rfl, Lib.hid (by rw [hz2.out]; simp; exact HNK.out), Lib.hid ?_, Lib.hid ho2, hw2⟩
          rw [HTK.out, numsOf_app, HNS.out, numsOf_one HOK.out HNN.out, hz2.out]; rfl
        case measure => simp only [intOf]; omega
    · have g1 : ¬ (k : Int) < (ls.length : Int) := by omega
      have HX : Hid (numsOf ls = some ns) := Lib.hid (by
        have h := HNS.out
        rw [List.take_of_length_le (by omega)] at h
        exact h)
      obtain rfl : n1 = ns.length := HN1.out
      go_wp2_with fail
      go_ret2
      exact ⟨(fun ms h => by rw [HX.out] at h; injection h with h; subst h; exact ⟨A1, c1, rfl, HO.out⟩), (fun h => by rw [HX.out] at h; cases h), hb⟩

theorem digit_any (n : Int) (v : Value) (w : World) (h0 : -9223372036854775808 ≤ n) (h1 : n ≤ 9223372036854775807) (ht : TabT w) :
    Calls Tryz.prog 60 #[.int .i64 n, v] w fun e w' => e = .returned (.tuple #[.string (itoaS n), v]) ∧ Below w.heap.size w w' := by
  have HT := Lib.hid ht
  clear ht
  go_enter Tryz.func60, Tryz.ntmps60
  go_wp2_with fail
  refine (itoa9_any n _ h0 h1 HT.out).mono ?_
  rintro e w1 ⟨rfl, hb⟩
  go_wp2_with fail
  go_ret2
  exact ⟨rfl, hb⟩
theorem yes_any (b : Bool) (v : Value) (w : World) :
    Calls Tryz.prog 64 #[.bool b, v] w fun e w' => e = .returned (.tuple #[.string (if b then tYes else tNo), v]) ∧ w = w' := by
  cases b
  · go_enter Tryz.func64, Tryz.ntmps64
    go_wp2_with fail
    go_ret2
    exact ⟨rfl, rfl⟩
  · go_enter Tryz.func64, Tryz.ntmps64
    go_wp2_with fail
    go_ret2
    exact ⟨rfl, rfl⟩

end Go.Proofs.YtegiffdlfpdbkaaGreatDoor
