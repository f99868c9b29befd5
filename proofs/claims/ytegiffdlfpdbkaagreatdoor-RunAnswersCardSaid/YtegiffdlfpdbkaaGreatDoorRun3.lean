/- run: a desk, and its register extended. -/
import Derived.Test.YtegiffdlfpdbkaaGreatDoorRows
import Derived.Test.YtegiffdlfpdbkaaGreatDoorNum
import Derived.Test.YtegiffdlfpdbkaaGreatDoorBase
import Derived.Test.YtegiffdlfpdbkaaGreatDoorApp
import Derived.Test.YtegiffdlfpdbkaaGreatDoorFoot
import Derived.Test.YtegiffdlfpdbkaaGreatDoorMeas
import Derived.Test.YtegiffdlfpdbkaaGreatDoorKey
import Derived.Test.YtegiffdlfpdbkaaGreatDoorBank3
import Derived.Test.YtegiffdlfpdbkaaGreatDoorImg
import Derived.Test.YtegiffdlfpdbkaaGreatDoorImg2
import Derived.Test.YtegiffdlfpdbkaaGreatDoorCount
import Derived.Test.YtegiffdlfpdbkaaGreatDoorCntP
import Derived.Test.YtegiffdlfpdbkaaGreatDoorCntC
import Derived.Test.YtegiffdlfpdbkaaGreatDoorParse
import Derived.Test.YtegiffdlfpdbkaaGreatDoorRefL
import Derived.Test.YtegiffdlfpdbkaaGreatDoorRunP
import Derived.Test.YtegiffdlfpdbkaaGreatDoorRun1
import Derived.Test.YtegiffdlfpdbkaaGreatDoorQuietC
import Derived.Test.YtegiffdlfpdbkaaGreatDoorRun2
import Derived.Test.YtegiffdlfpdbkaaGreatDoorLiftT
import Derived.WalkKit
import Derived.WalkSpells
import Derived.WalkLawsBesides
import Derived.Lib.Hide
import Derived.BigQuiet
import Derived.Deep.QuietTactic
import Derived.Deep.RegionHeld3
import Derived.Deep.DeepCutAuto
namespace Go.Proofs.YtegiffdlfpdbkaaGreatDoor
open Go.RowKit
set_option maxRecDepth 100000
set_option linter.unusedVariables false
set_option linter.unusedSimpArgs false

/-- A desk at g, its counts at b. -/
abbrev DeskBox (w : World) (g b : Nat) (xs : List Int) : Prop := Box w g 41 (#[.pointer (some ⟨b + 1, 0, none⟩)] ++ (xs.map (Value.int .i64)).toArray)
def DeskAt (w : World) (g b N : Nat) (d : Dsk) : Prop := DeskBox w g b d.bank ∧ (∃ n, n ≤ N ∧ CE w b n d.cnt) ∧ DskOK d ∧ g ≠ b ∧ g ≠ b + 1
theorem DeskAt.but {S : Nat → Prop} {w w' : World} {g b N : Nat} {d : Dsk} (h : DeskAt w g b N d) (hb : But S w w') (h1 : ¬ S g) (h2 : ¬ S b) (h3 : ¬ S (b + 1)) : DeskAt w' g b N d := by
  obtain ⟨a1, ⟨n, hn, a2⟩, a3⟩ := h
  exact ⟨Box.but a1 hb h1, ⟨n, hn, a2.but hb h2 h3⟩, a3⟩
theorem DeskAt.below {w w' : World} {g b N : Nat} {d : Dsk} (h : DeskAt w g b N d) (hb : Below w.heap.size w w') : DeskAt w' g b N d := h.but (below_but hb (fun _ => False)) (fun h => h) (fun h => h) (fun h => h)
theorem DeskAt.mono {w : World} {g b N M : Nat} {d : Dsk} (h : DeskAt w g b N d) (hm : N ≤ M) : DeskAt w g b M d := by
  obtain ⟨a1, ⟨n, hn, a2⟩, a3⟩ := h
  exact ⟨a1, ⟨n, by omega, a2⟩, a3⟩
theorem eight {xs : List Int} (h : xs.length = 8) : ∃ x0 x1 x2 x3 x4 x5 x6 x7, xs = [x0, x1, x2, x3, x4, x5, x6, x7] := by
  match xs, h with
  | [x0, x1, x2, x3, x4, x5, x6, x7], _ => exact ⟨x0, x1, x2, x3, x4, x5, x6, x7, rfl⟩

set_option maxHeartbeats 2000000 in
theorem dExtend_any (w : World) (g b N : Nat) (d : Dsk) (i m : Int) (h : DeskAt w g b N d) (h0 : 0 ≤ i) (ht : ∀ w', But (fun k => k = g ∨ k = b) w w' → TabT w') :
    Calls Tryz.prog 59 #[.pointer (some ⟨g, 0, none⟩), .int .i64 i, .int .i64 m] w fun e w' => SaidP (plainR d wExtend [i, m]).1 e ∧ DeskAt w' g b N (plainR d wExtend [i, m]).2 ∧ But (fun k => k = g) w w' := by
  have en := fun k w => err_neq k w
  have gn := fun o k w => err_guard_neq o k w
  obtain ⟨hB, hC, hO, hg1, hg2⟩ := h
  obtain ⟨x0, x1, x2, x3, x4, x5, x6, x7, hx⟩ := eight hO.len
  have HO2 := Lib.hid (lineR_ok hO)
  have hp : plainR d wExtend [i, m] = (if extE d.bank i m = 0 then (itoaS ((extB d.bank i m).getD i.toNat 0), { d with bank := extB d.bank i m }) else (errN (extE d.bank i m), d)) := by
    unfold plainR
    rw [if_pos rfl]
    rfl
  have hB' : Box w g 41 #[.pointer (some ⟨b + 1, 0, none⟩), .int .i64 x0, .int .i64 x1, .int .i64 x2, .int .i64 x3, .int .i64 x4, .int .i64 x5, .int .i64 x6, .int .i64 x7] := by
    have h1 := hB
    unfold DeskBox at h1
    rw [hx] at h1
    exact h1
  have hl8 : (extB d.bank i m).length = 8 := by
    unfold extB
    split
    · rw [List.length_set]; exact hO.len
    · rfl
  obtain ⟨y0, y1, y2, y3, y4, y5, y6, y7, hy⟩ := eight hl8
  have HE : Hid (∀ w, Calls Tryz.prog 77 #[.agg #[.int .i64 x0, .int .i64 x1, .int .i64 x2, .int .i64 x3, .int .i64 x4, .int .i64 x5, .int .i64 x6, .int .i64 x7], .int .i64 i, .int .i64 m] w fun e w' => e = .returned (.tuple #[.agg #[.int .i64 y0, .int .i64 y1, .int .i64 y2, .int .i64 y3, .int .i64 y4, .int .i64 y5, .int .i64 y6, .int .i64 y7], errV (extE d.bank i m)]) ∧ Below w.heap.size w w') := Lib.hid (fun w => by
    refine (extend_any x0 x1 x2 x3 x4 x5 x6 x7 i m w).mono ?_
    rintro e w' ⟨z0, z1, z2, z3, z4, z5, z6, z7, hz, rfl, hb⟩
    rw [← hx, hy] at hz
    simp only [List.cons.injEq, and_true] at hz
    obtain ⟨rfl, rfl, rfl, rfl, rfl, rfl, rfl, rfl⟩ := hz
    rw [hx]
    exact ⟨rfl, hb⟩)
  obtain ⟨AN, hAN⟩ : ∃ AN, itoaS ((extB d.bank i m).getD i.toNat 0) = AN := ⟨_, rfl⟩
  rw [hp, hAN, hy]
  have HAN := Lib.hid hAN
  clear hAN
  obtain ⟨E, hE⟩ : ∃ E, extE d.bank i m = E := ⟨_, rfl⟩
  rw [hE] at HE ⊢
  have HEQ := Lib.hid hE
  have HY := Lib.hid hy
  have HOK : Hid (E = 0 → i ≤ 7 ∧ (extB d.bank i m).all okM = true ∧ DskOK { d with bank := extB d.bank i m }) := Lib.hid (fun h0 => by
    obtain ⟨e1, e2⟩ := extB_ok hO.len hO.ok (hE.trans h0)
    refine ⟨?_, e2, hO.cnt, e1, e2⟩
    have h1 : extE d.bank i m = 0 := hE.trans h0
    unfold extE extOk okReg at h1
    by_cases hi : i ≤ 7
    · exact hi
    · rw [show decide (0 ≤ i ∧ i ≤ 7) = false from decide_eq_false (by omega)] at h1
      simp at h1)
  have HEB : Hid (E = 0 ∨ E = 1) := Lib.hid (by rw [← hE]; unfold extE; split <;> simp)
  have cB := hB'.cell
  have lB := hB'.lt
  have HB := Lib.hid hB'
  have HT := Lib.hid ht
  have HC := Lib.hid hC
  have HO := Lib.hid hO
  have HBD := Lib.hid hB
  have H0' := Lib.hid h0
  clear hB hB' hC hO hx hp hl8 hy hE ht
  go_enter Tryz.func59, Tryz.ntmps59
  go_wp2_with fail
  refine (HE.out _).mono ?_
  rintro e w1 ⟨rfl, hb1⟩
  have hB1 := HB.out.below hb1
  have HB1 := Lib.hid hB1
  have HB2 := Lib.hid (hB1.alloc_ (.cells #[.int .i64 y0, .int .i64 y1, .int .i64 y2, .int .i64 y3, .int .i64 y4, .int .i64 y5, .int .i64 y6, .int .i64 y7] 30))
  have HX := Lib.hid (Box.new w1 30 #[.int .i64 y0, .int .i64 y1, .int .i64 y2, .int .i64 y3, .int .i64 y4, .int .i64 y5, .int .i64 y6, .int .i64 y7])
  have HW := Lib.hid (grow_alloc hb1 (.cells #[.int .i64 y0, .int .i64 y1, .int .i64 y2, .int .i64 y3, .int .i64 y4, .int .i64 y5, .int .i64 y6, .int .i64 y7] 30))
  have hgx : g < w1.heap.size := hB1.lt
  have HB1W := Lib.hid hb1
  clear hB1 hb1 cB lB HB
  by_cases h0' : E = 0
  · have t : (E != 0) = false := by simp [h0']
    have H0 := Lib.hid h0'
    obtain ⟨hi7, hok, hdk⟩ := HOK.out h0'
    clear h0'
    obtain ⟨k, rfl⟩ : ∃ k : Nat, i = k := ⟨i.toNat, by omega⟩
    have hk8 : k < 8 := by omega
    have HDK := Lib.hid hdk
    have HYK := Lib.hid hok
    clear hok hdk
    have cB := HB2.out.cell
    have lB := HB2.out.lt
    have fB := HB2.out.frozen
    have cB1 := HB1.out.cell
    have lB1 := HB1.out.lt
    have fB1 := HB1.out.frozen
    have cX := HX.out.cell
    have lX := HX.out.lt
    go_upto_region 5 with fail
    obtain ⟨W0, hW0⟩ : ∃ W0, ((((((((w1.setCell ⟨g, 1, none⟩ (.int .i64 y0)).setCell ⟨g, 2, none⟩ (.int .i64 y1)).setCell ⟨g, 3, none⟩ (.int .i64 y2)).setCell ⟨g, 4, none⟩ (.int .i64 y3)).setCell ⟨g, 5, none⟩ (.int .i64 y4)).setCell ⟨g, 6, none⟩ (.int .i64 y5)).setCell ⟨g, 7, none⟩ (.int .i64 y6)).setCell ⟨g, 8, none⟩ (.int .i64 y7)) = W0 := ⟨_, rfl⟩
    have hz0 : W0.heap.size = w1.heap.size := by rw [← hW0]; simp [World.setCell]
    have hd0 : Box W0 g 41 #[.pointer (some ⟨b + 1, 0, none⟩), .int .i64 y0, .int .i64 y1, .int .i64 y2, .int .i64 y3, .int .i64 y4, .int .i64 y5, .int .i64 y6, .int .i64 y7] := by rw [← hW0]; exact ((((((((HB1.out.set_ 1 (.int .i64 y0)).set_ 2 (.int .i64 y1)).set_ 3 (.int .i64 y2)).set_ 4 (.int .i64 y3)).set_ 5 (.int .i64 y4)).set_ 6 (.int .i64 y5)).set_ 7 (.int .i64 y6)).set_ 8 (.int .i64 y7))
    have hk0 : But (fun k => k = g) w1 W0 := by rw [← hW0]; exact ((((((((But.refl (fun k => k = g) w1).setCell (p := ⟨g, 1, none⟩) (Or.inl rfl) _).setCell (p := ⟨g, 2, none⟩) (Or.inl rfl) _).setCell (p := ⟨g, 3, none⟩) (Or.inl rfl) _).setCell (p := ⟨g, 4, none⟩) (Or.inl rfl) _).setCell (p := ⟨g, 5, none⟩) (Or.inl rfl) _).setCell (p := ⟨g, 6, none⟩) (Or.inl rfl) _).setCell (p := ⟨g, 7, none⟩) (Or.inl rfl) _).setCell (p := ⟨g, 8, none⟩) (Or.inl rfl) _
    rw [hW0]
    have hx0 := Box.new W0 30 #[.int .i64 y0, .int .i64 y1, .int .i64 y2, .int .i64 y3, .int .i64 y4, .int .i64 y5, .int .i64 y6, .int .i64 y7]
    rw [hz0] at hx0
    obtain ⟨W, hW⟩ : ∃ W, W0.alloc (.cells #[.int .i64 y0, .int .i64 y1, .int .i64 y2, .int .i64 y3, .int .i64 y4, .int .i64 y5, .int .i64 y6, .int .i64 y7] 30) = W := ⟨_, rfl⟩
    have hd := hd0.alloc_ (.cells #[.int .i64 y0, .int .i64 y1, .int .i64 y2, .int .i64 y3, .int .i64 y4, .int .i64 y5, .int .i64 y6, .int .i64 y7] 30)
    have hk1 : But (fun k => k = g) w1 W := by rw [← hW]; exact hk0.alloc _
    rw [hW] at hx0 hd ⊢
    have hcell : W.cell? ⟨w1.heap.size, k, none⟩ = some (.int .i64 ([y0, y1, y2, y3, y4, y5, y6, y7].getD k 0)) := Box.at_ (xs := [y0, y1, y2, y3, y4, y5, y6, y7]) hx0 k hk8
    have lx0 := hx0.lt
    have HD := Lib.hid hd
    have HKB := Lib.hid hk1
    obtain ⟨v, hv⟩ : ∃ v, [y0, y1, y2, y3, y4, y5, y6, y7].getD k 0 = v := ⟨_, rfl⟩
    have hvb : okM v = true := by
      have h1 := HYK.out
      rw [HY.out] at h1
      rw [← hv, List.getD_eq_getElem?_getD, List.getElem?_eq_getElem (show k < [y0, y1, y2, y3, y4, y5, y6, y7].length from hk8)]
      exact List.all_eq_true.1 h1 _ (List.getElem_mem _)
    obtain ⟨v0, v1⟩ := okM_yes hvb
    rw [hv] at hcell
    have HV := Lib.hid hv
    have HTW : Hid (TabT W) := Lib.hid (HT.out _ ((below_but HB1W.out _).trans (hk1.mono (S' := fun k => k = g ∨ k = b) (fun _ _ h => Or.inl h)) (fun _ _ h => h)))
    clear cB lB fB cB1 lB1 fB1 cX lX hW0 hz0 hd0 hk0 hW hd hx0 hk1 hv hvb
    go_wp2_with fail
    refine (digit_any v .nilIface _ (by omega) (by omega) HTW.out).mono ?_
    rintro e w3 ⟨rfl, hb3⟩
    have hk3 : But (fun k => k = g) w w3 := ((below_but HB1W.out (fun k => k = g)).trans HKB.out (fun _ _ h => h)).trans (below_but hb3 (fun k => k = g)) (fun _ _ h => h)
    have HD3 := Lib.hid (HD.out.below hb3)
    have HK3 := Lib.hid hk3
    clear hk3 hb3
    go_wp2_with fail
    go_ret2
    try rw [if_pos H0.out]
    refine ⟨Or.inl ?_, ?_, HK3.out⟩
    · have e2 : AN = itoaS v := by rw [← HAN.out, HY.out, Int.toNat_natCast, HV.out]
      rw [e2]
      rfl
    · obtain ⟨n, hn, hc⟩ := HC.out
      refine ⟨?_, ⟨n, hn, hc.but HK3.out (fun e => hg1 e.symm) (fun e => hg2 e.symm)⟩, ?_, hg1, hg2⟩
      · exact HD3.out
      · have h1 := HDK.out
        rw [HY.out] at h1
        exact h1
  · have t : (E != 0) = true := by simp [h0']
    have H0 := Lib.hid h0'
    clear h0'
    go_wp2_with fail
    go_ret2
    have hk := below_but HW.out (fun k => k = g)
    refine ⟨Or.inr (Or.inl ⟨_, E, H0.out, by have := HEB.out; constructor <;> omega, rfl, rfl⟩), ?_, hk⟩
    exact DeskAt.below ⟨HBD.out, HC.out, HO.out, hg1, hg2⟩ HW.out

end Go.Proofs.YtegiffdlfpdbkaaGreatDoor
