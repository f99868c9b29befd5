/- run: a desk's words with numbers. -/
import Derived.Test.YtegiffdlfpdbkaaGreatDoorRows
import Derived.Test.YtegiffdlfpdbkaaGreatDoorNum
import Derived.Test.YtegiffdlfpdbkaaGreatDoorBase
import Derived.Test.YtegiffdlfpdbkaaGreatDoorApp
import Derived.Test.YtegiffdlfpdbkaaGreatDoorFoot
import Derived.Test.YtegiffdlfpdbkaaGreatDoorMeas
import Derived.Test.YtegiffdlfpdbkaaGreatDoorKey
import Derived.Test.YtegiffdlfpdbkaaGreatDoorBank3
import Derived.Test.YtegiffdlfpdbkaaGreatDoorImg
import Derived.Test.YtegiffdlfpdbkaaGreatDoorImg2
import Derived.Test.YtegiffdlfpdbkaaGreatDoorCount
import Derived.Test.YtegiffdlfpdbkaaGreatDoorCntP
import Derived.Test.YtegiffdlfpdbkaaGreatDoorCntC
import Derived.Test.YtegiffdlfpdbkaaGreatDoorParse
import Derived.Test.YtegiffdlfpdbkaaGreatDoorRefL
import Derived.Test.YtegiffdlfpdbkaaGreatDoorRunP
import Derived.Test.YtegiffdlfpdbkaaGreatDoorRun1
import Derived.Test.YtegiffdlfpdbkaaGreatDoorQuietC
import Derived.Test.YtegiffdlfpdbkaaGreatDoorRun2
import Derived.Test.YtegiffdlfpdbkaaGreatDoorRun3
import Derived.Test.YtegiffdlfpdbkaaGreatDoorRun4
import Derived.Test.YtegiffdlfpdbkaaGreatDoorBank
import Derived.Test.YtegiffdlfpdbkaaGreatDoorLiftT
import Derived.WalkKit
import Derived.WalkSpells
import Derived.WalkLawsBesides
import Derived.Lib.Hide
import Derived.BigQuiet
import Derived.Deep.QuietTactic
import Derived.Deep.RegionHeld3
import Derived.Deep.DeepCutAuto
namespace Go.Proofs.YtegiffdlfpdbkaaGreatDoor
open Go.RowKit
set_option maxRecDepth 100000
set_option linter.unusedVariables false
set_option linter.unusedSimpArgs false

theorem said_pair {v : ByteArray} {e : Ending} (h : SaidP v e) : ∃ s x, e = .returned (.tuple #[.string s, x]) ∧ SaidP v (.returned (.tuple #[.string s, x])) := by
  rcases h with rfl | ⟨s, k, h0, hi, rfl, hv⟩ | ⟨s, rfl, hv⟩
  · exact ⟨_, _, rfl, Or.inl rfl⟩
  · exact ⟨_, _, rfl, Or.inr (Or.inl ⟨s, k, h0, hi, rfl, hv⟩)⟩
  · exact ⟨_, _, rfl, Or.inr (Or.inr ⟨s, rfl, hv⟩)⟩
theorem ints_cell {w : World} {b off : Nat} {xs : List Int} (h : IntsAt w (some ⟨b, off, none⟩) xs) (k : Nat) (hk : k < xs.length) : w.cell? ⟨b, off + k, none⟩ = some (.int .i64 (xs.getD k 0)) := by
  obtain ⟨b1, o1, e, _, hc⟩ := h k hk
  injection e with e
  injection e with e1 e2 _
  subst e1 e2
  exact hc

set_option maxHeartbeats 1000000 in
theorem dPublic_any (w : World) (g b N : Nat) (d : Dsk) (A : Option Addr) (c : Nat) (x : Int) (h : DeskAt w g b N d) (hA : IntsAt w A [x]) (ht : TabT w) :
    Calls Tryz.prog 48 #[.pointer (some ⟨g, 0, none⟩), .string wPublic, .slice A 1 c] w (WordPost w g b N (plainR d wPublic [x])) := by
  have hp : plainR d wPublic [x] = (sayI (pubM x) (pubE x), d) := by
    unfold plainR
    rw [if_neg (by decide), if_neg (by decide), if_pos rfl]; rfl
  rw [hp]
  obtain ⟨b0, off, rfl, lb, c0⟩ := one_at hA
  have HR := Lib.hid (fun w => public_any x w)
  have hmb : 0 ≤ pubM x ∧ pubM x ≤ 1542 := by
    unfold pubM
    split
    · exact pwI_bd _ _
    · omega
  have HE : Hid (I64 (pubE x)) := Lib.hid (by unfold pubE; split <;> (constructor <;> decide))
  obtain ⟨M, hM⟩ : ∃ M, pubM x = M := ⟨_, rfl⟩
  obtain ⟨E, hE⟩ : ∃ E, pubE x = E := ⟨_, rfl⟩
  rw [hM, hE] at HR ⊢
  rw [hE] at HE
  rw [hM] at hmb
  have HMB := Lib.hid hmb
  have HD := Lib.hid h
  have HT := Lib.hid ht
  have f1 : ((wPublic).toList == (wExtend).toList) = false := by rw [str_beq]; decide
  have f2 : ((wPublic).toList == (wDigest).toList) = false := by rw [str_beq]; decide
  have f3 : ((wPublic).toList == (wPublic).toList) = true := by rw [str_beq]; simp
  clear h ht hp hM hE hmb hA
  go_enter Tryz.func48, Tryz.ntmps48
  go_wp2_with fail
  refine (HR.out _).mono ?_
  rintro e w' ⟨rfl, rfl⟩
  go_wp2_with fail
  refine (digit_any M (errV E) _ (by have := HMB.out; omega) (by have := HMB.out; omega) HT.out).mono ?_
  rintro e w2 ⟨rfl, hb2⟩
  have HD2 := Lib.hid (HD.out.below hb2)
  have HK := Lib.hid (below_but hb2 (fun k => k = g ∨ k = b))
  clear hb2
  go_wp2_with fail
  go_ret2
  exact ⟨said_i (fun h => by unfold sayI; rw [if_pos h]) (fun h => by unfold sayI; rw [if_neg h]) HE.out, HD2.out.mono (by omega), HK.out⟩

set_option maxHeartbeats 1000000 in
theorem dSign_any (w : World) (g b N : Nat) (d : Dsk) (A : Option Addr) (c : Nat) (ns : List Int) (hl : ns.length = 3) (h : DeskAt w g b N d) (hA : IntsAt w A ns) (ht : TabT w) :
    Calls Tryz.prog 48 #[.pointer (some ⟨g, 0, none⟩), .string wSign, .slice A ns.length c] w (WordPost w g b N (plainR d wSign ns)) := by
  have hp : plainR d wSign ns = (if sgE (ns.getD 0 0) (ns.getD 1 0) (ns.getD 2 0) = 0 then itoaS (sgP (ns.getD 0 0) (ns.getD 1 0) (ns.getD 2 0)) ++ tSp ++ itoaS (sgA (ns.getD 0 0) (ns.getD 1 0) (ns.getD 2 0)) else errN (sgE (ns.getD 0 0) (ns.getD 1 0) (ns.getD 2 0)), d) := by
    unfold plainR
    rw [if_neg (by decide), if_neg (by decide), if_neg (by decide), if_pos rfl]
  rw [hp]
  have HR := seal_any A c ns w hA hl ht
  rw [hl] at HR ⊢
  clear hl
  have HE : Hid (I64 (sgE (ns.getD 0 0) (ns.getD 1 0) (ns.getD 2 0))) := Lib.hid (by unfold sgE; split <;> (constructor <;> decide))
  obtain ⟨S, hS⟩ : ∃ S, itoaS (sgP (ns.getD 0 0) (ns.getD 1 0) (ns.getD 2 0)) ++ tSp ++ itoaS (sgA (ns.getD 0 0) (ns.getD 1 0) (ns.getD 2 0)) = S := ⟨_, rfl⟩
  obtain ⟨E, hE⟩ : ∃ E, sgE (ns.getD 0 0) (ns.getD 1 0) (ns.getD 2 0) = E := ⟨_, rfl⟩
  rw [hS, hE] at HR ⊢
  rw [hE] at HE
  have HR := Lib.hid HR
  obtain ⟨V, hV⟩ : ∃ V, (if E = 0 then S else errN E) = V := ⟨_, rfl⟩
  rw [hV]
  have HV1 : Hid (E = 0 → S = V) := Lib.hid (fun h => by rw [← hV, if_pos h])
  have HV2 : Hid (E ≠ 0 → V = errN E) := Lib.hid (fun h => by rw [← hV, if_neg h])
  have HD := Lib.hid h
  have f1 : ((wSign).toList == (wExtend).toList) = false := by rw [str_beq]; decide
  have f2 : ((wSign).toList == (wDigest).toList) = false := by rw [str_beq]; decide
  have f3 : ((wSign).toList == (wPublic).toList) = false := by rw [str_beq]; decide
  have f4 : ((wSign).toList == (wSign).toList) = true := by rw [str_beq]; simp
  clear h ht hp hS hE hA hV
  go_enter Tryz.func48, Tryz.ntmps48
  go_wp2_with fail
  refine HR.out.mono ?_
  rintro e w2 ⟨rfl, hb2⟩
  have HD2 := Lib.hid (HD.out.below hb2)
  have HK := Lib.hid (below_but hb2 (fun k => k = g ∨ k = b))
  clear hb2
  go_wp2_with fail
  go_ret2
  exact ⟨said_i HV1.out HV2.out HE.out, HD2.out.mono (by omega), HK.out⟩

set_option maxHeartbeats 2000000 in
theorem dExt_any (w : World) (g b N : Nat) (d : Dsk) (A : Option Addr) (c : Nat) (i m : Int) (h : DeskAt w g b N d) (hA : IntsAt w A [i, m]) (hab : ∀ a, A = some a → a.block ≠ g) (h0 : 0 ≤ i) (ht : ∀ w', But (fun k => k = g ∨ k = b) w w' → TabT w') :
    Calls Tryz.prog 48 #[.pointer (some ⟨g, 0, none⟩), .string wExtend, .slice A 2 c] w (WordPost w g b N (plainR d wExtend [i, m])) := by
  obtain ⟨b0, off, rfl, lb, c0⟩ := hA 0 (by simp)
  have c0' : w.cell? ⟨b0, off, none⟩ = some (.int .i64 i) := c0
  have c1' : w.cell? ⟨b0, off + 1, none⟩ = some (.int .i64 m) := ints_cell hA 1 (by simp)
  have hne : b0 ≠ g := hab _ rfl
  have HR := Lib.hid (dExtend_any w.drew g b N d i m (h.below (grow_drew (grow_refl _))) h0 (fun w' hk => ht w' ((But.refl _ w).drew.trans hk (fun _ _ h => h))))
  obtain ⟨O, hO⟩ : ∃ O, plainR d wExtend [i, m] = O := ⟨_, rfl⟩
  rw [hO] at HR ⊢
  have f1 : ((wExtend).toList == (wExtend).toList) = true := by rw [str_beq]; simp
  have GA := hA
  clear h ht hA c0 hO hab
  go_enter Tryz.func48, Tryz.ntmps48
  go_upto_region 3 with fail
  go_region_held3 (fun w' => w'.cell? ⟨b0, off, none⟩ = some (.int .i64 i) ∧ w'.cell? ⟨b0, off + 1, none⟩ = some (.int .i64 m))
    (first
      | exact ⟨c0', c1'⟩
      | (go_keep; done))
    (first
      | (go_at_call 59; refine HR.out.mono ?_; rintro e w5 ⟨hs, hd, hk⟩; obtain ⟨s5, v5, rfl, hs5⟩ := said_pair hs; have GA := GA.but (w' := w5) (S := fun k => k = g) ((But.refl _ w).drew.trans hk (fun _ _ h => h)) (fun a ha => by injection ha with ha; subst ha; exact hne); have c0' : w5.cell? ⟨b0, off, none⟩ = some (.int .i64 i) := ints_cell GA 0 (by simp); have c1' : w5.cell? ⟨b0, off + 1, none⟩ = some (.int .i64 m) := ints_cell GA 1 (by simp)))
  have HS := Lib.hid hs5
  have HD := Lib.hid hd
  have HK : Hid (But (fun k => k = g) w w5) := Lib.hid ((But.refl _ w).drew.trans hk (fun _ _ h => h))
  clear hs hd hk hs5 c0' c1' GA
  go_wp2_with fail
  go_ret2
  exact ⟨HS.out, HD.out.mono (by omega), HK.out.mono (fun _ _ h => Or.inl h)⟩

set_option maxHeartbeats 2000000 in
theorem dCheck_any (w : World) (g b N : Nat) (d : Dsk) (A : Option Addr) (c : Nat) (q m p a : Int) (h : DeskAt w g b N d) (hA : IntsAt w A [q, m, p, a]) :
    Calls Tryz.prog 48 #[.pointer (some ⟨g, 0, none⟩), .string wCheck, .slice A 4 c] w (WordPost w g b N (plainR d wCheck [q, m, p, a])) := by
  have hp : plainR d wCheck [q, m, p, a] = (sayB (chkB q m p a) (chkE q m p a), d) := by
    unfold plainR
    rw [if_neg (by decide), if_neg (by decide), if_neg (by decide), if_neg (by decide)]; rfl
  rw [hp]
  obtain ⟨b0, off, rfl, lb, c0⟩ := hA 0 (by simp)
  have c0' : w.cell? ⟨b0, off, none⟩ = some (.int .i64 q) := c0
  have c1' : w.cell? ⟨b0, off + 1, none⟩ = some (.int .i64 m) := ints_cell hA 1 (by simp)
  have c2' : w.cell? ⟨b0, off + 2, none⟩ = some (.int .i64 p) := ints_cell hA 2 (by simp)
  have c3' : w.cell? ⟨b0, off + 3, none⟩ = some (.int .i64 a) := ints_cell hA 3 (by simp)
  have HCC := Lib.hid (And.intro c0' (And.intro c1' (And.intro c2' c3')))
  have HR := fun w => check_any q m p a w
  have HE : Hid (I64 (chkE q m p a)) := Lib.hid (by unfold chkE; split <;> (constructor <;> decide))
  obtain ⟨B, hB⟩ : ∃ B, chkB q m p a = B := ⟨_, rfl⟩
  obtain ⟨E, hE⟩ : ∃ E, chkE q m p a = E := ⟨_, rfl⟩
  rw [hE] at HE
  simp only [hB, hE] at HR
  rw [hB, hE]
  have HR := Lib.hid HR
  have HYS := fun w => yes_any B (errV E) w
  obtain ⟨Y, hY⟩ : ∃ Y, (if B then tYes else tNo) = Y := ⟨_, rfl⟩
  rw [hY] at HYS
  have HYS := Lib.hid HYS
  have HY := Lib.hid hY
  have HD := Lib.hid h
  have GW := grow_drew (grow_refl w)
  have f1 : ((wCheck).toList == (wExtend).toList) = false := by rw [str_beq]; decide
  have f2 : ((wCheck).toList == (wDigest).toList) = false := by rw [str_beq]; decide
  have f3 : ((wCheck).toList == (wPublic).toList) = false := by rw [str_beq]; decide
  have f4 : ((wCheck).toList == (wSign).toList) = false := by rw [str_beq]; decide
  clear h hA c0 hp hB hE hY c0' c1' c2' c3'
  go_enter Tryz.func48, Tryz.ntmps48
  go_upto_region 10 with fail
  go_region_held3 (fun w' => w'.cell? ⟨b0, off, none⟩ = some (.int .i64 q) ∧ w'.cell? ⟨b0, off + 1, none⟩ = some (.int .i64 m) ∧ w'.cell? ⟨b0, off + 2, none⟩ = some (.int .i64 p) ∧ w'.cell? ⟨b0, off + 3, none⟩ = some (.int .i64 a))
    (first
      | exact ⟨(GW.cell (p := ⟨b0, off, none⟩) lb).trans HCC.out.1, (GW.cell (p := ⟨b0, off + 1, none⟩) lb).trans HCC.out.2.1, (GW.cell (p := ⟨b0, off + 2, none⟩) lb).trans HCC.out.2.2.1, (GW.cell (p := ⟨b0, off + 3, none⟩) lb).trans HCC.out.2.2.2⟩
      | (go_keep; done))
    (first
      | (go_at_call 65; refine (HR.out _).mono ?_; rintro e w5 ⟨rfl, hb5⟩; have GW := grow_step GW hb5)
      | (go_at_call 64; refine (HYS.out _).mono ?_; rintro e w6 ⟨rfl, rfl⟩))
  have HD1 := Lib.hid (HD.out.below GW)
  have HK := Lib.hid (below_but GW (fun k => k = g ∨ k = b))
  go_wp2_with fail
  go_ret2
  exact ⟨said_i (fun h => by unfold sayB; rw [if_pos h, HY.out]) (fun h => by unfold sayB; rw [if_neg h]) HE.out, HD1.out.mono (by omega), HK.out⟩

set_option maxHeartbeats 2000000 in
theorem dDig_any (w : World) (g b N : Nat) (d : Dsk) (A : Option Addr) (c : Nat) (m : Int) (h : DeskAt w g b N d) (hA : IntsAt w A [m]) (ht : TabT w) :
    Calls Tryz.prog 48 #[.pointer (some ⟨g, 0, none⟩), .string wDigest, .slice A 1 c] w (WordPost w g b N (plainR d wDigest [m])) := by
  have hd := h
  obtain ⟨hB, _, hO, _, _⟩ := h
  obtain ⟨x0, x1, x2, x3, x4, x5, x6, x7, hx⟩ := eight hO.len
  have hp : plainR d wDigest [m] = (sayI (digM d.bank m) (digE d.bank m), d) := by
    unfold plainR
    rw [if_neg (by decide), if_pos rfl]; rfl
  rw [hp]
  have hB' : Box w g 41 #[.pointer (some ⟨b + 1, 0, none⟩), .int .i64 x0, .int .i64 x1, .int .i64 x2, .int .i64 x3, .int .i64 x4, .int .i64 x5, .int .i64 x6, .int .i64 x7] := by
    have h1 := hB
    unfold DeskBox at h1
    rw [hx] at h1
    exact h1
  obtain ⟨b0, off, rfl, lb, c0⟩ := one_at hA
  have HR := fun w => digest_any x0 x1 x2 x3 x4 x5 x6 x7 m w
  have hmb : 0 ≤ digM d.bank m ∧ digM d.bank m ≤ 1000002 := by
    unfold digM
    split
    · unfold isM; exact okM_yes (rowM_ok _)
    · omega
  have HE : Hid (I64 (digE d.bank m)) := Lib.hid (by unfold digE; split <;> (constructor <;> decide))
  obtain ⟨M, hM⟩ : ∃ M, digM d.bank m = M := ⟨_, rfl⟩
  obtain ⟨E, hE⟩ : ∃ E, digE d.bank m = E := ⟨_, rfl⟩
  rw [hE] at HE
  rw [hM] at hmb
  simp only [← hx, hM, hE] at HR
  rw [hM, hE]
  have HR := Lib.hid HR
  have HMB := Lib.hid hmb
  have HD := Lib.hid hd
  have HT := Lib.hid ht
  have HB := Lib.hid hB'
  have HC0 := Lib.hid c0
  have GW := grow_drew (grow_refl w)
  have f1 : ((wDigest).toList == (wExtend).toList) = false := by rw [str_beq]; decide
  have f2 : ((wDigest).toList == (wDigest).toList) = true := by rw [str_beq]; simp
  clear hd ht hp hM hE hmb hA hB hB' c0 hO hx
  go_enter Tryz.func48, Tryz.ntmps48
  go_upto_region 5 with fail
  go_region_held3 (fun w' => (∀ i, w'.cell? ⟨g, i, none⟩ = (#[.pointer (some ⟨b + 1, 0, none⟩), .int .i64 x0, .int .i64 x1, .int .i64 x2, .int .i64 x3, .int .i64 x4, .int .i64 x5, .int .i64 x6, .int .i64 x7] : Array Value)[i]?) ∧ w'.cell? ⟨b0, off, none⟩ = some (.int .i64 m))
    (first
      | exact ⟨(HB.out.below GW).cell, (GW.cell (p := ⟨b0, off, none⟩) lb).trans HC0.out⟩
      | (go_keep; done))
    (first
      | (go_at_call 61; refine (HR.out _).mono ?_; rintro e w5 ⟨rfl, hb5⟩; have GW := grow_step GW hb5)
      | (go_at_call 60; refine (digit_any M (errV E) _ (by have := HMB.out; omega) (by have := HMB.out; omega) (HT.out.below GW)).mono ?_; rintro e w6 ⟨rfl, hb6⟩; have GW := grow_step GW hb6))
  have HD1 := Lib.hid (HD.out.below GW)
  have HK := Lib.hid (below_but GW (fun k => k = g ∨ k = b))
  go_wp2_with fail
  go_ret2
  exact ⟨said_i (fun h => by unfold sayI; rw [if_pos h]) (fun h => by unfold sayI; rw [if_neg h]) HE.out, HD1.out.mono (by omega), HK.out⟩

end Go.Proofs.YtegiffdlfpdbkaaGreatDoor
