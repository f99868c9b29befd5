/- The reference's Cut: a text cut at each byte. -/
import Derived.Test.YtegiffdlfpdbkaaGreatDoorRows
import Derived.Test.YtegiffdlfpdbkaaGreatDoorNum
import Derived.Test.YtegiffdlfpdbkaaGreatDoorBase
import Derived.Test.YtegiffdlfpdbkaaGreatDoorApp
import Derived.WalkKit
import Derived.WalkSpells
import Derived.WalkLawsBesides
import Derived.Lib.Hide
import Derived.Deep.RegionHeld3
namespace Go.Proofs.YtegiffdlfpdbkaaGreatDoor
open Go.RowKit
set_option maxRecDepth 100000
set_option linter.unusedVariables false
set_option linter.unusedSimpArgs false

def strCells (ls : List ByteArray) : List Value := ls.map Value.string
theorem strCells_one (ls : List ByteArray) : ∀ u ∈ strCells ls, u.oneCell' = true := fun u hu => by
  obtain ⟨x, _, rfl⟩ := List.mem_map.1 hu
  rfl
theorem strCells_app (a b : List ByteArray) : strCells (a ++ b) = strCells a ++ strCells b := List.map_append
theorem strCells_len (a : List ByteArray) : (strCells a).length = a.length := List.length_map ..
theorem infoStr_ : (Tryz.prog.info? 9).map (fun i => (i.zero, i.size, i.bytes)) = some (some (.string ⟨#[]⟩), 1, 16) := by kernel_rfl
/-- The pieces: from 'f' on, with k bytes still to be looked at. -/
def cutF (s : ByteArray) (c : UInt8) : Nat → Nat → List ByteArray
  | 0, f => [s.extract f s.size]
  | k + 1, f => if s.data.toList.getD (s.size - (k + 1)) 0 = c then s.extract f (s.size - (k + 1)) :: cutF s c k (s.size - k) else cutF s c k f
theorem cutF_hit {s : ByteArray} {c : UInt8} {i f : Nat} (h : i < s.size) (hc : (s[i]).toNat = c.toNat) : cutF s c (s.size - i) f = s.extract f i :: cutF s c (s.size - (i + 1)) (i + 1) := by
  obtain ⟨k, hk⟩ : ∃ k, s.size - i = k + 1 := ⟨s.size - i - 1, by omega⟩
  have e1 : s.size - (i + 1) = k := by omega
  have e2 : s.size - (k + 1) = i := by omega
  have e3 : s.size - k = i + 1 := by omega
  have e4 : s.data.toList.getD i 0 = c := by
    rw [List.getD_eq_getElem?_getD, List.getElem?_eq_getElem (by simpa using h)]
    exact UInt8.toNat_inj.1 hc
  rw [hk, e1]
  show (if s.data.toList.getD (s.size - (k + 1)) 0 = c then s.extract f (s.size - (k + 1)) :: cutF s c k (s.size - k) else cutF s c k f) = _
  rw [e2, e3, if_pos e4]
theorem cutF_miss {s : ByteArray} {c : UInt8} {i f : Nat} (h : i < s.size) (hc : (s[i]).toNat ≠ c.toNat) : cutF s c (s.size - i) f = cutF s c (s.size - (i + 1)) f := by
  obtain ⟨k, hk⟩ : ∃ k, s.size - i = k + 1 := ⟨s.size - i - 1, by omega⟩
  have e1 : s.size - (i + 1) = k := by omega
  have e2 : s.size - (k + 1) = i := by omega
  have e4 : ¬ s.data.toList.getD i 0 = c := by
    rw [List.getD_eq_getElem?_getD, List.getElem?_eq_getElem (by simpa using h)]
    exact fun e => hc (by rw [← e]; rfl)
  rw [hk, e1]
  show (if s.data.toList.getD (s.size - (k + 1)) 0 = c then s.extract f (s.size - (k + 1)) :: cutF s c k (s.size - k) else cutF s c k f) = _
  rw [e2, if_neg e4]

set_option maxHeartbeats 2000000 in
theorem rCut_any (s : ByteArray) (c : UInt8) (cz : Int) (hcz : cz = (c.toNat : Int)) (w : World) (hs : s.size ≤ 1048576) :
    Calls Tryz.prog 7 #[.string s, .int .u8 cz] w fun e w' => ∃ (A : Option Addr) (cp : Nat), e = .returned (.slice A (cutF s c s.size 0).length cp) ∧ CellsAt w' A (strCells (cutF s c s.size 0)) ∧ Below w.heap.size w w' := by
  obtain ⟨N, hN⟩ : ∃ N, cutF s c s.size 0 = N := ⟨_, rfl⟩
  rw [hN]
  have HN := Lib.hid hN
  have HZ := Lib.hid hcz
  clear hN hcz
  go_enter Tryz.func7, Tryz.ntmps7
  go_wp2_with fail
  go_loopw [5, 6, 7] (fun out f i wr => ∃ (A1 : Option Addr) (c1 n1 j k : Nat) (ls : List ByteArray), out = .slice A1 n1 c1 ∧ f = .int .i64 j ∧ i = .int .i64 k ∧ j ≤ k ∧ k ≤ s.size ∧ n1 ≤ k ∧ Hid (n1 = ls.length) ∧ Hid (OwnC wr w.heap.size 9 1 A1 c1 n1 (strCells ls)) ∧ Hid (N = ls ++ cutF s c (s.size - k) j) ∧ Below w.heap.size w wr) (fun _ _ i _ => s.size - (intOf i).toNat)
  case atStart => exact ⟨none, 0, 0, 0, 0, [], rfl, rfl, rfl, Nat.le_refl _, Nat.zero_le _, Nat.le_refl _, Lib.hid rfl, Lib.hid (OwnC.start _ _ _ _), Lib.hid (by rw [← HN.out]; rfl), (by repeat (first | (with_reducible exact grow_refl _) | (with_reducible assumption) | (with_reducible refine grow_alloc ?_ _) | (with_reducible refine grow_set ?_ (by first | exact Nat.le_refl _ | (simp; done) | (simp; omega) | omega) _) | (with_reducible refine grow_drewN ?_ _) | (with_reducible refine grow_drew ?_) | (with_reducible refine grow_step ?_ (by assumption)) | (with_reducible refine grow_base ?_ (by assumption))))⟩
  case round =>
    obtain ⟨A1, c1, n1, j, k, ls, rfl, rfl, rfl, hjk, hk, hn1, HN1, HO, HC, hb⟩ := hrel
    by_cases hlt : k < s.size
    · by_cases h1 : ((s[k]).toNat : Int) = cz
      · have HC2 : Hid (N = (ls ++ [s.extract j k]) ++ cutF s c (s.size - (k + 1)) (k + 1)) := Lib.hid (by
          rw [HC.out, cutF_hit hlt (by have := HZ.out; omega), List.append_assoc]; rfl)
        have HCA : Hid (CellsAt (wr.alloc (.cells #[.string (s.extract j k)] 9)) (some ⟨wr.heap.size, 0, none⟩) (strCells [s.extract j k])) := Lib.hid (CellsAt.new_ wr 9 [.string (s.extract j k)] (0, 0))
        have hww := hb.size
        go_wp2_with (at_builtin; refine app_cells rfl _ _ 23 9 rfl Tryz.underlying23 infoStr_ (by decide) (by decide) w.heap.size A1 c1 n1 (strCells ls) rfl (HO.out.below (grow_alloc (grow_refl _) _)) (some ⟨wr.heap.size, 0, none⟩) 1 1 (strCells [s.extract j k]) rfl HCA.out (by simp [strCells]) (strCells_one _) (by omega) (by omega) (by simp; omega) ?_; intro A2 c2 k2 w4 hk2 ho2 hb4)
        have hb5 : Below w.heap.size w w4 := grow_base (by repeat (first | (with_reducible exact grow_refl _) | (with_reducible assumption) | (with_reducible refine grow_alloc ?_ _) | (with_reducible refine grow_set ?_ (by first | exact Nat.le_refl _ | (simp; done) | (simp; omega) | omega) _) | (with_reducible refine grow_drewN ?_ _) | (with_reducible refine grow_drew ?_) | (with_reducible refine grow_step ?_ (by assumption)) | (with_reducible refine grow_base ?_ (by assumption)))) hb4
        have HO2 : Hid (OwnC w4 w.heap.size 9 1 A2 c2 k2 (strCells (ls ++ [s.extract j k]))) := Lib.hid (by rw [strCells_app]; exact ho2)
        clear ho2
        go_roundw
        case rel => exact ⟨A2, c2, k2, k + 1, k + 1, _, rfl, by go_num, by go_num, by omega, by omega, by have := hk2.out; omega, Lib.hid (by rw [hk2.out, HN1.out, List.length_append]; rfl), HO2, HC2, hb5⟩
        case measure => simp [intOf]; omega
      · have HC2 : Hid (N = ls ++ cutF s c (s.size - (k + 1)) j) := Lib.hid (by
          rw [HC.out, cutF_miss hlt (by have := HZ.out; omega)])
        go_wp2_with fail
        go_roundw
        case rel => exact ⟨A1, c1, n1, j, k + 1, ls, rfl, rfl, by go_num, by omega, by omega, by omega, HN1, HO, HC2, (by repeat (first | (with_reducible exact grow_refl _) | (with_reducible assumption) | (with_reducible refine grow_alloc ?_ _) | (with_reducible refine grow_set ?_ (by first | exact Nat.le_refl _ | (simp; done) | (simp; omega) | omega) _) | (with_reducible refine grow_drewN ?_ _) | (with_reducible refine grow_drew ?_) | (with_reducible refine grow_step ?_ (by assumption)) | (with_reducible refine grow_base ?_ (by assumption))))⟩
        case measure => simp [intOf]; omega
    · have HC2 : Hid (N = ls ++ [s.extract j s.size]) := Lib.hid (by
        have e : s.size - k = 0 := by omega
        rw [HC.out, e]; rfl)
      have HCA : Hid (CellsAt (wr.alloc (.cells #[.string (s.extract j s.size)] 9)) (some ⟨wr.heap.size, 0, none⟩) (strCells [s.extract j s.size])) := Lib.hid (CellsAt.new_ wr 9 [.string (s.extract j s.size)] (0, 0))
      have hww := hb.size
      go_wp2_with (at_builtin; refine app_cells rfl _ _ 23 9 rfl Tryz.underlying23 infoStr_ (by decide) (by decide) w.heap.size A1 c1 n1 (strCells ls) rfl (HO.out.below (grow_alloc (grow_refl _) _)) (some ⟨wr.heap.size, 0, none⟩) 1 1 (strCells [s.extract j s.size]) rfl HCA.out (by simp [strCells]) (strCells_one _) (by omega) (by omega) (by simp; omega) ?_; intro A2 c2 k2 w4 hk2 ho2 hb4)
      have hb5 : Below w.heap.size w w4 := grow_base (by repeat (first | (with_reducible exact grow_refl _) | (with_reducible assumption) | (with_reducible refine grow_alloc ?_ _) | (with_reducible refine grow_set ?_ (by first | exact Nat.le_refl _ | (simp; done) | (simp; omega) | omega) _) | (with_reducible refine grow_drewN ?_ _) | (with_reducible refine grow_drew ?_) | (with_reducible refine grow_step ?_ (by assumption)) | (with_reducible refine grow_base ?_ (by assumption)))) hb4
      have HO2 : Hid (OwnC w4 w.heap.size 9 1 A2 c2 k2 (strCells (ls ++ [s.extract j s.size]))) := Lib.hid (by rw [strCells_app]; exact ho2)
      have HK : Hid (k2 = N.length) := Lib.hid (by rw [hk2.out, HN1.out, HC2.out, List.length_append]; rfl)
      clear ho2
      go_ret
      exact ⟨A2, c2, by rw [HK.out]; rfl, by rw [HC2.out]; exact HO2.out.cells, hb5⟩

end Go.Proofs.YtegiffdlfpdbkaaGreatDoor
