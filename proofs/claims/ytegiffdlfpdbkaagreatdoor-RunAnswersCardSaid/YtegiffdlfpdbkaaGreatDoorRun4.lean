/- run: a desk's words with a name. -/
import Derived.Test.YtegiffdlfpdbkaaGreatDoorRows
import Derived.Test.YtegiffdlfpdbkaaGreatDoorNum
import Derived.Test.YtegiffdlfpdbkaaGreatDoorBase
import Derived.Test.YtegiffdlfpdbkaaGreatDoorApp
import Derived.Test.YtegiffdlfpdbkaaGreatDoorFoot
import Derived.Test.YtegiffdlfpdbkaaGreatDoorMeas
import Derived.Test.YtegiffdlfpdbkaaGreatDoorKey
import Derived.Test.YtegiffdlfpdbkaaGreatDoorBank3
import Derived.Test.YtegiffdlfpdbkaaGreatDoorImg
import Derived.Test.YtegiffdlfpdbkaaGreatDoorImg2
import Derived.Test.YtegiffdlfpdbkaaGreatDoorCount
import Derived.Test.YtegiffdlfpdbkaaGreatDoorCntP
import Derived.Test.YtegiffdlfpdbkaaGreatDoorCntC
import Derived.Test.YtegiffdlfpdbkaaGreatDoorParse
import Derived.Test.YtegiffdlfpdbkaaGreatDoorRefL
import Derived.Test.YtegiffdlfpdbkaaGreatDoorRunP
import Derived.Test.YtegiffdlfpdbkaaGreatDoorRun1
import Derived.Test.YtegiffdlfpdbkaaGreatDoorQuietC
import Derived.Test.YtegiffdlfpdbkaaGreatDoorRun2
import Derived.Test.YtegiffdlfpdbkaaGreatDoorRun3
import Derived.Test.YtegiffdlfpdbkaaGreatDoorLiftT
import Derived.WalkKit
import Derived.WalkSpells
import Derived.WalkLawsBesides
import Derived.Lib.Hide
import Derived.BigQuiet
import Derived.Deep.QuietTactic
import Derived.Deep.RegionHeld3
import Derived.Deep.DeepCutAuto
namespace Go.Proofs.YtegiffdlfpdbkaaGreatDoor
open Go.RowKit
set_option maxRecDepth 100000
set_option linter.unusedVariables false
set_option linter.unusedSimpArgs false

def WordPost (w : World) (g b N : Nat) (out : ByteArray × Dsk) (e : Ending) (w' : World) : Prop := SaidP out.1 e ∧ DeskAt w' g b (N + 1) out.2 ∧ But (fun k => k = g ∨ k = b) w w'
theorem one_at {w : World} {A : Option Addr} {x : Int} (h : IntsAt w A [x]) : ∃ b off, A = some ⟨b, off, none⟩ ∧ b < w.heap.size ∧ w.cell? ⟨b, off, none⟩ = some (.int .i64 x) := by
  obtain ⟨b, off, e, lt, hc⟩ := h 0 (by simp)
  exact ⟨b, off, e, lt, hc⟩

theorem one_cell {w : World} {b off : Nat} {x : Int} (h : IntsAt w (some ⟨b, off, none⟩) [x]) : w.cell? ⟨b, off, none⟩ = some (.int .i64 x) := by
  obtain ⟨b1, o1, e, _, hc⟩ := one_at h
  injection e with e
  injection e with e1 e2 _
  subst e1 e2
  exact hc

set_option maxHeartbeats 1000000 in
theorem dRaise_any (w : World) (g b N : Nat) (d : Dsk) (nm : ByteArray) (A : Option Addr) (c : Nat) (x : Int) (h : DeskAt w g b N d) (hA : IntsAt w A [x]) (hab : ∀ a, A = some a → a.block ≠ b) (hz : nm.size ≤ 140737488351232) (hN : N ≤ 900000) :
    Calls Tryz.prog 49 #[.pointer (some ⟨g, 0, none⟩), .string wRaise, .string nm, .slice A 1 c] w (WordPost w g b N (namedR d wRaise nm [x])) := by
  obtain ⟨hB, ⟨n, hn, hC⟩, hO, hg1, hg2⟩ := h
  have hp : namedR d wRaise nm [x] = (sayB (raiseB d.cnt nm x) (raiseE d.cnt nm x), { d with cnt := raiseL d.cnt nm x }) := by
    unfold namedR
    rw [if_pos rfl]; rfl
  rw [hp]
  have HO2 : Hid (DskOK { d with cnt := raiseL d.cnt nm x }) := Lib.hid ⟨raiseL_len _ _ hO.cnt, hO.len, hO.ok⟩
  obtain ⟨b0, off, rfl, lb, c0⟩ := one_at hA
  have HR := Lib.hid (cRaise_any b n d.cnt nm x w.drew hC hz (by omega) hO.cnt)
  have HE := Lib.hid (raiseE_bd d.cnt nm x)
  obtain ⟨B, hBB⟩ : ∃ B, raiseB d.cnt nm x = B := ⟨_, rfl⟩
  obtain ⟨E, hE⟩ : ∃ E, raiseE d.cnt nm x = E := ⟨_, rfl⟩
  rw [hBB, hE] at HR ⊢
  rw [hE] at HE
  have cB : w.cell? ⟨g, 0, none⟩ = some (.pointer (some ⟨b + 1, 0, none⟩)) := by rw [hB.cell 0]; simp
  have lB := hB.lt
  have HB := Lib.hid hB
  have f1 : ((wRaise).toList == (wRaise).toList) = true := by rw [str_beq]; simp
  have HYS := fun w => yes_any B (errV E) w
  obtain ⟨Y, hY⟩ : ∃ Y, (if B then tYes else tNo) = Y := ⟨_, rfl⟩
  rw [hY] at HYS
  have HYS := Lib.hid HYS
  have HY := Lib.hid hY
  clear hY
  have GA := hA
  have GB : DeskBox w.drew g b d.bank := hB
  have hb0 : b0 ≠ b := hab _ rfl
  clear hB hC hO hA hp hBB hE
  go_enter Tryz.func49, Tryz.ntmps49
  go_upto_region 3 with fail
  go_region_held3 (fun w' => w'.cell? ⟨g, 0, none⟩ = some (.pointer (some ⟨b + 1, 0, none⟩)) ∧ w'.cell? ⟨b0, off, none⟩ = some (.int .i64 x))
    (first
      | exact ⟨cB, c0⟩
      | (go_keep; done))
    (first
      | (go_at_call 66; refine HR.out.mono ?_; rintro e w5 ⟨rfl, ⟨n1, hn1, hC1⟩, hk⟩; have GB := Box.but GB hk hg1; have cB : w5.cell? ⟨g, 0, none⟩ = some (.pointer (some ⟨b + 1, 0, none⟩)) := (by rw [GB.cell 0]; simp); have GA := GA.but (w' := w5) (S := fun k => k = b) ((But.refl _ w).drew.trans hk (fun _ _ h => h)) (fun a ha => by injection ha with ha; subst ha; exact hb0); have c0 := one_cell GA)
      | (go_at_call 64; refine (HYS.out _).mono ?_; rintro e w6 ⟨rfl, rfl⟩))
  have HC1 := Lib.hid hC1
  have HB1 := Lib.hid GB
  have HK : Hid (But (fun k => k = b) w w5) := Lib.hid ((But.refl _ w).drew.trans hk (fun _ _ h => h))
  clear hC1 hk GB GA cB c0
  go_wp2_with fail
  go_ret2
  exact ⟨said_i (fun h => by unfold sayB; rw [if_pos h, HY.out]) (fun h => by unfold sayB; rw [if_neg h]) HE.out, ⟨HB1.out, ⟨n1, by omega, HC1.out⟩, HO2.out, hg1, hg2⟩, HK.out.mono (fun _ _ h => Or.inr h)⟩

set_option maxHeartbeats 1000000 in
theorem dMay_any (w : World) (g b N : Nat) (d : Dsk) (nm : ByteArray) (A : Option Addr) (c : Nat) (x : Int) (h : DeskAt w g b N d) (hA : IntsAt w A [x]) (hz : nm.size ≤ 140737488351232) :
    Calls Tryz.prog 49 #[.pointer (some ⟨g, 0, none⟩), .string wMay, .string nm, .slice A 1 c] w (WordPost w g b N (namedR d wMay nm [x])) := by
  have hd := h
  obtain ⟨hB, ⟨n, hn, hC⟩, hO, hg1, hg2⟩ := h
  have hp : namedR d wMay nm [x] = (if mayL d.cnt nm x = 0 then tOk else errN (mayL d.cnt nm x), d) := by
    unfold namedR
    rw [if_neg (by decide), if_pos rfl]; rfl
  rw [hp]
  obtain ⟨b0, off, rfl, lb, c0⟩ := one_at hA
  have HR := Lib.hid (cMay_any b n d.cnt nm x w.drew hC hz)
  have HE := Lib.hid (mayL_bd d.cnt nm x)
  obtain ⟨E, hE⟩ : ∃ E, mayL d.cnt nm x = E := ⟨_, rfl⟩
  rw [hE] at HR HE ⊢
  have cB : w.cell? ⟨g, 0, none⟩ = some (.pointer (some ⟨b + 1, 0, none⟩)) := by rw [hB.cell 0]; simp
  have lB := hB.lt
  have HD := Lib.hid hd
  have f1 : ((wMay).toList == (wRaise).toList) = false := by rw [str_beq]; decide
  have f2 : ((wMay).toList == (wMay).toList) = true := by rw [str_beq]; simp
  obtain ⟨V, hV⟩ : ∃ V, (if E = 0 then tOk else errN E) = V := ⟨_, rfl⟩
  rw [hV]
  have HV := Lib.hid hV
  clear hB hC hO hA hp hE hd hV
  have GW := grow_drew (grow_refl w)
  have HCE := Lib.hid (And.intro cB c0)
  go_enter Tryz.func49, Tryz.ntmps49
  go_upto_region 5 with fail
  go_region_held3 (fun w' => w'.cell? ⟨g, 0, none⟩ = some (.pointer (some ⟨b + 1, 0, none⟩)) ∧ w'.cell? ⟨b0, off, none⟩ = some (.int .i64 x))
    (first
      | exact ⟨(GW.cell (p := ⟨g, 0, none⟩) lB).trans HCE.out.1, (GW.cell (p := ⟨b0, off, none⟩) lb).trans HCE.out.2⟩
      | (go_keep; done))
    (first
      | (go_at_call 67; refine HR.out.mono ?_; rintro e w5 ⟨rfl, hb5⟩; have GW := grow_step GW hb5))
  have HD1 := Lib.hid (HD.out.below GW)
  have HK := Lib.hid (below_but GW (fun k => k = g ∨ k = b))
  go_wp2_with fail
  go_ret2
  exact ⟨said_i (fun h => by rw [← HV.out, if_pos h]) (fun h => by rw [← HV.out, if_neg h]) HE.out, HD1.out.mono (by omega), HK.out⟩

set_option maxHeartbeats 1000000 in
theorem dMeas_any (w : World) (g b N : Nat) (d : Dsk) (nm : ByteArray) (A : Option Addr) (c : Nat) (h : DeskAt w g b N d) (hz : nm.size ≤ 140737488351232) (ht : TabT w) :
    Calls Tryz.prog 49 #[.pointer (some ⟨g, 0, none⟩), .string wMeasure, .string nm, .slice A 0 c] w (WordPost w g b N (namedR d wMeasure nm [])) := by
  have hp : namedR d wMeasure nm [] = (sayI (ofM nm.data.toList) (ofE nm.data.toList), d) := by
    unfold namedR
    rw [if_neg (by decide), if_neg (by decide)]
  rw [hp]
  have HR := Lib.hid (fun w => mOf_any nm w (by omega))
  have hmb : 0 ≤ ofM nm.data.toList ∧ ofM nm.data.toList ≤ 1000002 := by
    unfold ofM
    split
    · omega
    · exact okM_yes (textM_ok _)
  have HE : Hid (I64 (ofE nm.data.toList)) := Lib.hid (by unfold ofE; split <;> (constructor <;> decide))
  obtain ⟨M, hM⟩ : ∃ M, ofM nm.data.toList = M := ⟨_, rfl⟩
  obtain ⟨E, hE⟩ : ∃ E, ofE nm.data.toList = E := ⟨_, rfl⟩
  rw [hM, hE] at HR ⊢
  rw [hE] at HE
  rw [hM] at hmb
  have HMB := Lib.hid hmb
  have HD := Lib.hid h
  have HT := Lib.hid ht
  have f1 : ((wMeasure).toList == (wRaise).toList) = false := by rw [str_beq]; decide
  have f2 : ((wMeasure).toList == (wMay).toList) = false := by rw [str_beq]; decide
  clear h ht hp hM hE hmb
  go_enter Tryz.func49, Tryz.ntmps49
  go_wp2_with fail
  refine (HR.out _).mono ?_
  rintro e w1 ⟨rfl, hb⟩
  have HD1 := Lib.hid (HD.out.below hb)
  have HB1 := Lib.hid hb
  clear hb
  go_wp2_with fail
  refine (digit_any M (errV E) _ (by have := HMB.out; omega) (by have := HMB.out; omega) (HT.out.below HB1.out)).mono ?_
  rintro e w2 ⟨rfl, hb2⟩
  have HD2 := Lib.hid (HD1.out.below hb2)
  have HK := Lib.hid (below_but (grow_step HB1.out hb2) (fun k => k = g ∨ k = b))
  clear hb2
  go_wp2_with fail
  go_ret2
  exact ⟨said_i (fun h => by unfold sayI; rw [if_pos h]) (fun h => by unfold sayI; rw [if_neg h]) HE.out, HD2.out.mono (by omega), HK.out⟩

end Go.Proofs.YtegiffdlfpdbkaaGreatDoor
