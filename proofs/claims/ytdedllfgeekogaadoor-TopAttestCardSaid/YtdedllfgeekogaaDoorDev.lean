/- device: ahead of its start, and its first start. device.Start over any slots: what it answers, and what the device holds then. -/
import Derived.Test.YtdedllfgeekogaaDoorRows
import Derived.Test.YtdedllfgeekogaaDoorNum
import Derived.Test.YtdedllfgeekogaaDoorBase
import Derived.Test.YtdedllfgeekogaaDoorKey
import Derived.Test.YtdedllfgeekogaaDoorOpI
import Derived.Test.YtdedllfgeekogaaDoorOpE
import Derived.Test.YtdedllfgeekogaaDoorEvent
import Derived.Test.YtdedllfgeekogaaDoorImg
import Derived.Test.YtdedllfgeekogaaDoorImg2
import Derived.Test.YtdedllfgeekogaaDoorSign2
import Derived.Test.YtdedllfgeekogaaDoorFoot
import Derived.Test.YtdedllfgeekogaaDoorLiftT
import Derived.Test.YtdedllfgeekogaaDoorSlot
import Derived.Test.YtdedllfgeekogaaDoorSInv
import Derived.Test.YtdedllfgeekogaaDoorCount
import Derived.Test.YtdedllfgeekogaaDoorQuietC
import Derived.WalkKit
import Derived.WalkSpells
import Derived.Lib.Hide
import Derived.Deep.DeepCutAuto
import Derived.Deep.RegionHeld3
import Derived.Deep.QuietTactic
import Derived.BigQuiet
import Derived.RegionTactic
import Derived.BigRegion
namespace Go.Proofs.YtdedllfgeekogaaDoor
open Go.RowKit
set_option maxRecDepth 100000
set_option linter.unusedSimpArgs false
set_option linter.unusedVariables false

def sd0 (n : ByteArray) (v : Int) (c : ByteArray) (p a : Int) : Slts := ⟨⟨n, v, c, p, a, true, 0, true⟩, noSlt, false⟩
theorem res3b {P : Program} {fn : Func} {p u1 u2 : Tmp} {ty : TypeId} (h : fn.results = #[.cell p ty, .tmp u1, .tmp u2]) {tmps : Array Value} {w : World} {g : Nat} {t : TypeId} {cs : Array Value} {d : TypeDesc}
    (hp : tmps.getD p undef = .pointer (some ⟨g, 0, none⟩)) (hb : Box w g t cs) (hu : P.underlying ty = some d) (hd : (match d with | .struct _ | .array _ _ => true | _ => false) = true) (hi : (P.info? ty).map (·.size) = some cs.size) :
    (results fn tmps).run P w = .ok (.tuple #[.agg cs, tmps.getD u1 undef, tmps.getD u2 undef]) w := by
  have hp' : tmps[p]?.getD undef = .pointer (some ⟨g, 0, none⟩) := by simpa using hp
  simp [results, h, hp', asAddr, run_loadVar_row w g t ty cs (0, 0) d hb hu hd hi]
theorem new_cd (w : World) :
    Calls Tryd.prog 52 #[] w fun e w' => ∃ b : Nat, e = .returned (.pointer (some ⟨b + 1, 0, none⟩)) ∧ Below w.heap.size w w' := by
  refine (countNewE_any w).mono ?_
  rintro e w' ⟨rfl, _, hb⟩
  exact ⟨_, rfl, hb⟩

section
variable (root x : Int) (n : ByteArray) (v : Int) (c : ByteArray) (p a : Int) (w : World)
set_option maxHeartbeats 1000000 in
theorem devNew_key (h : okIn root = false ∨ okSecret x = false) :
    Calls Tryd.prog 17 #[.int .i64 root, .int .i64 x, .agg #[.string n, .int .i64 v, .string c, .int .i64 p, .int .i64 a]] w fun e w' => e = .returned (.tuple #[.pointer none, errV 1]) ∧ Below w.heap.size w w' := by
  cases h1 : okIn root
  · go_enter Tryd.func17, Tryd.ntmps17
    go_wp2_with (first | (go_at_call 43; refine (in_any _ _).mono ?_; rintro e w' ⟨rfl, rfl⟩; rw [h1]))
    go_ret2
    exact ⟨rfl, (by repeat (first | (with_reducible exact grow_refl _) | (with_reducible assumption) | (with_reducible refine grow_alloc ?_ _) | (with_reducible refine grow_set ?_ (by first | exact Nat.le_refl _ | (simp; done) | (simp; omega) | omega) _) | (with_reducible refine grow_drewN ?_ _) | (with_reducible refine grow_drew ?_) | (with_reducible refine grow_step ?_ (by assumption)) | (with_reducible refine grow_base ?_ (by assumption))))⟩
  · have h2 : okSecret x = false := by
      rcases h with h | h
      · rw [h1] at h; cases h
      · exact h
    go_enter Tryd.func17, Tryd.ntmps17
    go_wp2_with (first | (go_at_call 43; refine (in_any _ _).mono ?_; rintro e w' ⟨rfl, rfl⟩; rw [h1]) | (go_at_call 33; refine (secret_any _ _).mono ?_; rintro e w' ⟨rfl, rfl⟩; rw [h2]))
    go_ret2
    exact ⟨rfl, (by repeat (first | (with_reducible exact grow_refl _) | (with_reducible assumption) | (with_reducible refine grow_alloc ?_ _) | (with_reducible refine grow_set ?_ (by first | exact Nat.le_refl _ | (simp; done) | (simp; omega) | omega) _) | (with_reducible refine grow_drewN ?_ _) | (with_reducible refine grow_drew ?_) | (with_reducible refine grow_step ?_ (by assumption)) | (with_reducible refine grow_base ?_ (by assumption))))⟩
set_option maxHeartbeats 1000000 in
theorem devNew_img (h1 : okIn root = true) (h2 : okSecret x = true) (hn : n.size ≤ 140737488351232) (hc : c.size ≤ 140737488351232) (hi : imgE n v c ≠ 0) :
    Calls Tryd.prog 17 #[.int .i64 root, .int .i64 x, .agg #[.string n, .int .i64 v, .string c, .int .i64 p, .int .i64 a]] w fun e w' => e = .returned (.tuple #[.pointer none, errV (imgE n v c)]) ∧ Below w.heap.size w w' := by
  have en := fun k w => err_neq k w
  have gn := fun o k w => err_guard_neq o k w
  have HS := Lib.hid (fun w => slotNew_no n v c p a w (by omega) (by omega) hi)
  obtain ⟨E, hE⟩ : ∃ E, imgE n v c = E := ⟨_, rfl⟩
  rw [hE] at hi HS ⊢
  have t : (E != 0) = true := by simp [hi]
  clear hE hi
  go_enter Tryd.func17, Tryd.ntmps17
  go_wp2_with (first | (go_at_call 43; refine (in_any _ _).mono ?_; rintro e w' ⟨rfl, rfl⟩; rw [h1]) | (go_at_call 33; refine (secret_any _ _).mono ?_; rintro e w' ⟨rfl, rfl⟩; rw [h2]))
  refine (HS.out _).mono ?_
  rintro e w1 ⟨rfl, hb1⟩
  go_wp2_with fail
  go_ret2
  exact ⟨rfl, (by repeat (first | (with_reducible exact grow_refl _) | (with_reducible assumption) | (with_reducible refine grow_alloc ?_ _) | (with_reducible refine grow_set ?_ (by first | exact Nat.le_refl _ | (simp; done) | (simp; omega) | omega) _) | (with_reducible refine grow_drewN ?_ _) | (with_reducible refine grow_drew ?_) | (with_reducible refine grow_step ?_ (by assumption)) | (with_reducible refine grow_base ?_ (by assumption))))⟩
set_option maxHeartbeats 1000000 in
theorem devNew_yes (h1 : okIn root = true) (h2 : okSecret x = true) (hn : n.size ≤ 140737488351232) (hc : c.size ≤ 140737488351232) (hi : imgE n v c = 0) :
    Calls Tryd.prog 17 #[.int .i64 root, .int .i64 x, .agg #[.string n, .int .i64 v, .string c, .int .i64 p, .int .i64 a]] w fun e w' => ∃ gd b gs : Nat, e = .returned (.tuple #[.pointer (some ⟨gd, 0, none⟩), errV 0]) ∧ Box w' gd 117 #[.int .i64 root, .int .i64 x, .pointer (some ⟨b + 1, 0, none⟩), .pointer (some ⟨gs, 0, none⟩), .int .i64 0, .int .i64 0, .int .i64 0, .int .i64 0, .int .i64 0, .int .i64 0, .int .i64 0, .int .i64 0, .slice none 0 0, .string ⟨#[]⟩, .int .i64 0, .string ⟨#[]⟩, .bool false] ∧ Box w' gs 148 (sd0 n v c p a).cs ∧ w.heap.size ≤ gs ∧ gs < gd ∧ Below w.heap.size w w' := by
  have en := fun k w => err_neq k w
  have gn := fun o k w => err_guard_neq o k w
  have HS := Lib.hid (fun w => slotNew_yes n v c p a w (by omega) (by omega) hi)
  clear hi
  go_enter Tryd.func17, Tryd.ntmps17
  go_wp2_with (first | (go_at_call 43; refine (in_any _ _).mono ?_; rintro e w' ⟨rfl, rfl⟩; rw [h1]) | (go_at_call 33; refine (secret_any _ _).mono ?_; rintro e w' ⟨rfl, rfl⟩; rw [h2]))
  refine (HS.out _).mono ?_
  rintro e w1 ⟨gs, rfl, hB1, hg1, hb1⟩
  have HB1 : Hid (Box w1 gs 148 (sd0 n v c p a).cs) := Lib.hid hB1
  have hbw1 : Below w.heap.size w w1 := grow_step (grow_alloc (grow_refl _) _) hb1
  have hgw : w.heap.size ≤ gs := by simp at hg1; omega
  clear hB1 hb1 hg1
  go_wp2_with fail
  refine (new_cd _).mono ?_
  rintro e w2 ⟨b, rfl, hb2⟩
  have HB2 := Lib.hid (HB1.out.below hb2)
  have hlt := HB2.out.lt
  have hbw2 : Below w.heap.size w w2 := grow_step hbw1 hb2
  clear hb2
  go_wp2_with fail
  go_ret2
  exact ⟨w2.heap.size, b, gs, rfl, Box.new _ _ _, HB2.out.alloc_ _, hgw, hlt, (by repeat (first | (with_reducible exact grow_refl _) | (with_reducible assumption) | (with_reducible refine grow_alloc ?_ _) | (with_reducible refine grow_set ?_ (by first | exact Nat.le_refl _ | (simp; done) | (simp; omega) | omega) _) | (with_reducible refine grow_drewN ?_ _) | (with_reducible refine grow_drew ?_) | (with_reducible refine grow_step ?_ (by assumption)) | (with_reducible refine grow_base ?_ (by assumption))))⟩

variable (gd b gs : Nat) (hD : Box w gd 117 #[.int .i64 root, .int .i64 x, .pointer (some ⟨b + 1, 0, none⟩), .pointer (some ⟨gs, 0, none⟩), .int .i64 0, .int .i64 0, .int .i64 0, .int .i64 0, .int .i64 0, .int .i64 0, .int .i64 0, .int .i64 0, .slice none 0 0, .string ⟨#[]⟩, .int .i64 0, .string ⟨#[]⟩, .bool false])
include hD
set_option maxHeartbeats 1000000 in
theorem devRuns_off : Calls Tryd.prog 22 #[.pointer (some ⟨gd, 0, none⟩)] w fun e w' => e = .returned (.tuple #[.agg #[.string ⟨#[]⟩, .int .i64 0, .string ⟨#[]⟩], errV 6]) ∧ Below w.heap.size w w' := by
  have cD := hD.cell
  have lD := hD.lt
  have Q0 := Box.new w 24 #[.string ⟨#[]⟩, .int .i64 0, .string ⟨#[]⟩]
  clear hD
  go_enter Tryd.func22, Tryd.ntmps22
  go_wp2_with fail
  exact bodyPost_ret (v := .tuple #[.agg #[.string ⟨#[]⟩, .int .i64 0, .string ⟨#[]⟩], errV 6]) (ret_cell_tmp Tryd.results22 rfl Q0 Tryd.underlying24 rfl (by kernel_rfl)) rfl ⟨rfl, (by repeat (first | (with_reducible exact grow_refl _) | (with_reducible assumption) | (with_reducible refine grow_alloc ?_ _) | (with_reducible refine grow_set ?_ (by first | exact Nat.le_refl _ | (simp; done) | (simp; omega) | omega) _) | (with_reducible refine grow_drewN ?_ _) | (with_reducible refine grow_drew ?_) | (with_reducible refine grow_step ?_ (by assumption)) | (with_reducible refine grow_base ?_ (by assumption))))⟩
set_option maxHeartbeats 1000000 in
theorem devGood_off : Calls Tryd.prog 21 #[.pointer (some ⟨gd, 0, none⟩)] w fun e w' => e = .returned (errV 6) ∧ Below w.heap.size w w' := by
  have cD := hD.cell
  have lD := hD.lt
  clear hD
  go_enter Tryd.func21, Tryd.ntmps21
  go_wp2_with fail
  go_ret
  exact ⟨rfl, (by repeat (first | (with_reducible exact grow_refl _) | (with_reducible assumption) | (with_reducible refine grow_alloc ?_ _) | (with_reducible refine grow_set ?_ (by first | exact Nat.le_refl _ | (simp; done) | (simp; omega) | omega) _) | (with_reducible refine grow_drewN ?_ _) | (with_reducible refine grow_drew ?_) | (with_reducible refine grow_step ?_ (by assumption)) | (with_reducible refine grow_base ?_ (by assumption))))⟩
end
set_option maxHeartbeats 1000000 in
theorem devRuns_on (root x : Int) (n : ByteArray) (v : Int) (c : ByteArray) (w : World) (gd b gs ev : Nat) (y0 y1 y2 y3 y4 y5 y6 y7 : Int) (hD : Box w gd 117 #[.int .i64 root, .int .i64 x, .pointer (some ⟨b + 1, 0, none⟩), .pointer (some ⟨gs, 0, none⟩), .int .i64 y0, .int .i64 y1, .int .i64 y2, .int .i64 y3, .int .i64 y4, .int .i64 y5, .int .i64 y6, .int .i64 y7, .slice (some ⟨ev, 0, none⟩) 1 1, .string n, .int .i64 v, .string c, .bool true]) :
    Calls Tryd.prog 22 #[.pointer (some ⟨gd, 0, none⟩)] w fun e w' => e = .returned (.tuple #[.agg #[.string n, .int .i64 v, .string c], errV 0]) ∧ Below w.heap.size w w' := by
  have cD := hD.cell
  have lD := hD.lt
  have Q0 := Box.new w 24 #[.string n, .int .i64 v, .string c]
  clear hD
  go_enter Tryd.func22, Tryd.ntmps22
  go_wp2_with fail
  exact bodyPost_ret (v := .tuple #[.agg #[.string n, .int .i64 v, .string c], errV 0]) (ret_cell_tmp Tryd.results22 rfl Q0 Tryd.underlying24 rfl (by kernel_rfl)) rfl ⟨rfl, (by repeat (first | (with_reducible exact grow_refl _) | (with_reducible assumption) | (with_reducible refine grow_alloc ?_ _) | (with_reducible refine grow_set ?_ (by first | exact Nat.le_refl _ | (simp; done) | (simp; omega) | omega) _) | (with_reducible refine grow_drewN ?_ _) | (with_reducible refine grow_drew ?_) | (with_reducible refine grow_step ?_ (by assumption)) | (with_reducible refine grow_base ?_ (by assumption))))⟩

theorem pickD (n : ByteArray) (v : Int) (c : ByteArray) (p a : Int) (g : Nat) (w : World) (hB : Box w g 148 (sd0 n v c p a).cs) : Calls Tryd.prog 55 #[.pointer (some ⟨g, 0, none⟩)] w fun e w' => e = .returned (.int .i64 0) ∧ Below w.heap.size w w' := pick_at g (sd0 n v c p a) false w hB rfl
theorem safeD (n : ByteArray) (v : Int) (c : ByteArray) (p a : Int) (g : Nat) (w : World) (hB : Box w g 148 (sd0 n v c p a).cs) : Calls Tryd.prog 56 #[.pointer (some ⟨g, 0, none⟩)] w fun e w' => e = .returned (.int .i64 0) ∧ Below w.heap.size w w' := safe_at g (sd0 n v c p a) false w hB rfl
theorem startD (n : ByteArray) (v : Int) (c : ByteArray) (p a : Int) (g : Nat) (w : World) (hB : Box w g 148 (sd0 n v c p a).cs) : Calls Tryd.prog 57 #[.pointer (some ⟨g, 0, none⟩)] w fun e w' => e = .returned (.agg #[.string n, .int .i64 v, .string c, .int .i64 p, .int .i64 a]) ∧ Box w' g 148 (sd0 n v c p a).cs ∧ But (fun k => k = g) w w' :=
  (start_at g (sd0 n v c p a) false w hB rfl ⟨(by decide : (0 : Int) ≤ 0), (by decide : (0 : Int) ≤ 1000)⟩).mono fun e w' h => ⟨h.1, h.2.1, h.2.2⟩
/-- What the first statement keeps. -/
def KeepD (w0 : World) (root x : Int) (n : ByteArray) (v : Int) (c : ByteArray) (p a : Int) (gd b gs : Nat) (w : World) : Prop := Box w gd 117 #[.int .i64 root, .int .i64 x, .pointer (some ⟨b + 1, 0, none⟩), .pointer (some ⟨gs, 0, none⟩), .int .i64 0, .int .i64 0, .int .i64 0, .int .i64 0, .int .i64 0, .int .i64 0, .int .i64 0, .int .i64 0, .slice none 0 0, .string ⟨#[]⟩, .int .i64 0, .string ⟨#[]⟩, .bool false] ∧ Box w gs 148 (sd0 n v c p a).cs ∧ Below w0.heap.size w0 w
theorem KeepD.below {w0 : World} {root x : Int} {n : ByteArray} {v : Int} {c : ByteArray} {p a : Int} {gd b gs : Nat} {w w' : World} (h : KeepD w0 root x n v c p a gd b gs w) (hb : Below w.heap.size w w') : KeepD w0 root x n v c p a gd b gs w' := ⟨h.1.below hb, h.2.1.below hb, grow_step h.2.2 hb⟩

set_option maxHeartbeats 4000000 in
theorem devStart_first (root x : Int) (n : ByteArray) (v : Int) (c : ByteArray) (p a : Int) (w0 w : World) (gd b gs : Nat) (hD : Box w gd 117 #[.int .i64 root, .int .i64 x, .pointer (some ⟨b + 1, 0, none⟩), .pointer (some ⟨gs, 0, none⟩), .int .i64 0, .int .i64 0, .int .i64 0, .int .i64 0, .int .i64 0, .int .i64 0, .int .i64 0, .int .i64 0, .slice none 0 0, .string ⟨#[]⟩, .int .i64 0, .string ⟨#[]⟩, .bool false]) (hB : Box w gs 148 (sd0 n v c p a).cs) (hg : gs < gd) (h0 : Below w0.heap.size w0 w) (hg0 : w0.heap.size ≤ gs) (hi : imgE n v c = 0) (ht : TabT w0) :
    Calls Tryd.prog 20 #[.pointer (some ⟨gd, 0, none⟩)] w fun e w' => e = .returned (.bool false) ∧ (∃ (ev : Nat) (y0 y1 y2 y3 y4 y5 y6 y7 : Int), Box w' gd 117 #[.int .i64 root, .int .i64 x, .pointer (some ⟨b + 1, 0, none⟩), .pointer (some ⟨gs, 0, none⟩), .int .i64 y0, .int .i64 y1, .int .i64 y2, .int .i64 y3, .int .i64 y4, .int .i64 y5, .int .i64 y6, .int .i64 y7, .slice (some ⟨ev, 0, none⟩) 1 1, .string n, .int .i64 v, .string c, .bool true]) ∧ Below w0.heap.size w0 w' := by
  have HT := Lib.hid ht
  have HI := Lib.hid hi
  have HK := Lib.hid (⟨hD, hB, h0⟩ : KeepD w0 root x n v c p a gd b gs w)
  have hne : gd ≠ gs := by omega
  clear ht hi hD hB h0
  go_enter Tryd.func20, Tryd.ntmps20
  go_wp2_with fail
  refine region_quiet (fun w' => KeepD w0 root x n v c p a gd b gs w') (by kernel_rfl) (by kernel_rfl) (KeepD.below HK.out (grow_drew (grow_refl _))) ?_
  repeat (go_big_quiet_step (first
    | (intro hC; rfl)
    | (intro hC; go_at_call 55; exact quiet_class (pickD n v c p a gs _ hC.2.1) (fun w' hb => hC.below hb))
    | (intro hC; go_at_call 56; exact quiet_class (safeD n v c p a gs _ hC.2.1) (fun w' hb => hC.below hb))
    | (intro hC; have e1 := hC.1.cell; simp only [e1]; rfl)
    | (intro hC; have e1 := hC.1.cell; simp [e1]; try rfl)))
  refine wpQuiet_nil ?_
  intro w1 E1
  have cD := E1.1.cell
  have lD := E1.1.lt
  have HE1 := Lib.hid E1
  clear E1 HK
  go_wp2_with fail
  refine (startD n v c p a gs _ HE1.out.2.1).mono ?_
  rintro e w2 ⟨rfl, hB2, hk2⟩
  have HD2 := Lib.hid ((HE1.out.1.but hk2 hne).alloc_ (.cells #[.string n, .int .i64 v, .string c, .int .i64 p, .int .i64 a] 34))
  have HX2 := Lib.hid (Box.new w2 34 #[.string n, .int .i64 v, .string c, .int .i64 p, .int .i64 a])
  have hbw2 : Below w0.heap.size w0 (w2.alloc (.cells #[.string n, .int .i64 v, .string c, .int .i64 p, .int .i64 a] 34)) := grow_alloc (HE1.out.2.2.trans (hk2.below HE1.out.2.2.size (by intro j h; have : j = gs := h; omega))) _
  have hgx : gd ≠ w2.heap.size := by have := (HE1.out.1.but hk2 hne).lt; omega
  clear hB2 hk2 HE1 cD lD
  go_wp2_with fail
  refine (imgIs_any n v c _ HI.out (HT.out.below hbw2)).mono ?_
  rintro e w3 ⟨rfl, hb3⟩
  obtain ⟨M, hM⟩ : ∃ M, imgM n v c = M := ⟨_, rfl⟩
  have hok : okM M = true := by rw [← hM]; exact imgM_ok _ _ _
  rw [hM]
  have GD : Box (w3.alloc (.cells #[.int .i64 0, .int .i64 M] 98)).drew gd 117 #[.int .i64 root, .int .i64 x, .pointer (some ⟨b + 1, 0, none⟩), .pointer (some ⟨gs, 0, none⟩), .int .i64 0, .int .i64 0, .int .i64 0, .int .i64 0, .int .i64 0, .int .i64 0, .int .i64 0, .int .i64 0, .slice none 0 0, .string ⟨#[]⟩, .int .i64 0, .string ⟨#[]⟩, .bool false] := ((HD2.out.below hb3).alloc_ _).drew_
  have GX : Box (w3.alloc (.cells #[.int .i64 0, .int .i64 M] 98)).drew w2.heap.size 34 #[.string n, .int .i64 v, .string c, .int .i64 p, .int .i64 a] := ((HX2.out.below hb3).alloc_ _).drew_
  have GW : Below w0.heap.size w0 (w3.alloc (.cells #[.int .i64 0, .int .i64 M] 98)).drew := grow_drew (grow_alloc (grow_step hbw2 hb3) _)
  have hE0 : EvsAt (w3.alloc (.cells #[.int .i64 0, .int .i64 M] 98)) (some ⟨w3.heap.size, 0, none⟩) [(0, M)] := EvsAt.of_cells (CellsAt.new_ w3 98 (evCells [(0, M)]) (0, 0))
  have GE := hE0.below (grow_drew (grow_refl _))
  have hall : ([(0, M)] : List (Int × Int)).all okEv = true := by simp [okEv, hok]; decide
  clear hM hb3 hbw2 HD2 HX2 hE0 hok
  go_upto_region 5 with fail
  have hgx2 := hgx.symm
  go_region_held3 (fun w' => (∀ i, w'.cell? ⟨w2.heap.size, i, none⟩ = (#[.string n, .int .i64 v, .string c, .int .i64 p, .int .i64 a] : Array Value)[i]?))
    (first
      | (with_reducible exact GX.cell)
      | (go_keep; done)
      | (intro i; have h := GX.cell i; simp [hgx, hgx2, h]; done))
    (first
      | (go_at_call 58; refine (again_any (some ⟨w3.heap.size, 0, none⟩) 1 [(0, M)] _ GE (by simp) hall).mono ?_; rintro e w5 ⟨y0, y1, y2, y3, y4, y5, y6, y7, hy, rfl, hb5⟩; have GD := GD.below hb5; have GX := GX.below hb5; have GW := grow_step GW hb5; have cD := GD.cell; have lD := GD.lt; have fD := GD.frozen; have cX := GX.cell))
  go_wp2_with fail
  go_ret
  have hgd : w0.heap.size ≤ gd := by omega
  refine ⟨rfl, ⟨w3.heap.size, y0, y1, y2, y3, y4, y5, y6, y7, ?_⟩, ?_⟩
  · refine Box.cast ((((((Box.put8 GD 4 5 6 7 8 9 10 11 _ _ _ _ _ _ _ _).set_ 12 _).set_ 13 _).set_ 14 _).set_ 15 _).set_ 16 _) ?_
    simp
  · exact (((((((((((((GW.setCell (p := ⟨gd, 4, none⟩) hgd _).setCell (p := ⟨gd, 5, none⟩) hgd _).setCell (p := ⟨gd, 6, none⟩) hgd _).setCell (p := ⟨gd, 7, none⟩) hgd _).setCell (p := ⟨gd, 8, none⟩) hgd _).setCell (p := ⟨gd, 9, none⟩) hgd _).setCell (p := ⟨gd, 10, none⟩) hgd _).setCell (p := ⟨gd, 11, none⟩) hgd _).setCell (p := ⟨gd, 12, none⟩) hgd _).setCell (p := ⟨gd, 13, none⟩) hgd _).setCell (p := ⟨gd, 14, none⟩) hgd _).setCell (p := ⟨gd, 15, none⟩) hgd _).setCell (p := ⟨gd, 16, none⟩) hgd _)

end Go.Proofs.YtdedllfgeekogaaDoor

namespace Go.Proofs.YtdedllfgeekogaaDoor
open Go.RowKit
set_option maxRecDepth 100000
set_option linter.unusedSimpArgs false
set_option linter.unusedVariables false

/-- What a device's first statement keeps. -/
def KeepE (w0 : World) (gd gs : Nat) (s : Slts) (d : Array Value) (w : World) : Prop := Box w gd 117 d ∧ Box w gs 148 (s.cs) ∧ Below w0.heap.size w0 w
theorem KeepE.below {w0 : World} {gd gs : Nat} {s : Slts} {d : Array Value} {w w' : World} (h : KeepE w0 gd gs s d w) (hb : Below w.heap.size w w') : KeepE w0 gd gs s d w' := ⟨h.1.below hb, h.2.1.below hb, grow_step h.2.2 hb⟩

def KeepF (w0 w : World) (gd gs : Nat) (s : Slts) (d : Array Value) (w' : World) : Prop := KeepE w0 gd gs s d w' ∧ Below w.heap.size w w'
theorem KeepF.below {w0 w : World} {gd gs : Nat} {s : Slts} {d : Array Value} {w1 w' : World} (h : KeepF w0 w gd gs s d w1) (hb : Below w1.heap.size w1 w') : KeepF w0 w gd gs s d w' := ⟨h.1.below hb, grow_step h.2 hb⟩

theorem Box.far8_ {w : World} {b : Nat} {t : TypeId} {cs : Array Value} (h : Box w b t cs) {g : Nat} (hp : b ≠ g) (i0 i1 i2 i3 i4 i5 i6 i7 : Nat) (u0 u1 u2 u3 u4 u5 u6 u7 : Value) :
    Box ((((((((w.setCell ⟨g, i0, none⟩ u0).setCell ⟨g, i1, none⟩ u1).setCell ⟨g, i2, none⟩ u2).setCell ⟨g, i3, none⟩ u3).setCell ⟨g, i4, none⟩ u4).setCell ⟨g, i5, none⟩ u5).setCell ⟨g, i6, none⟩ u6).setCell ⟨g, i7, none⟩ u7) b t cs :=
  (((((((h.far (p := ⟨g, i0, none⟩) hp u0).far (p := ⟨g, i1, none⟩) hp u1).far (p := ⟨g, i2, none⟩) hp u2).far (p := ⟨g, i3, none⟩) hp u3).far (p := ⟨g, i4, none⟩) hp u4).far (p := ⟨g, i5, none⟩) hp u5).far (p := ⟨g, i6, none⟩) hp u6).far (p := ⟨g, i7, none⟩) hp u7
theorem EvsAt.of_box1 {w : World} {b : Nat} {t : TypeId} {x m : Int} (h : Box w b t #[.int .i64 x, .int .i64 m]) : EvsAt w (some ⟨b, 0, none⟩) [(x, m)] := fun i hi => by
  obtain rfl : i = 0 := by have : i < 1 := hi; omega
  exact ⟨b, 0, rfl, h.lt, h.cell 0, h.cell 1⟩

set_option maxHeartbeats 4000000 in
theorem devStart_any (root x : Int) (w0 w : World) (gd b gs : Nat) (s : Slts) (q4 q5 q6 q7 q8 q9 q10 q11 q12 q13 q14 q15 q16 : Value) (hD : Box w gd 117 #[.int .i64 root, .int .i64 x, .pointer (some ⟨b + 1, 0, none⟩), .pointer (some ⟨gs, 0, none⟩), q4, q5, q6, q7, q8, q9, q10, q11, q12, q13, q14, q15, q16]) (hB : Box w gs 148 (s.cs)) (hs : Inv s) (hg : gs < gd) (h0 : Below w0.heap.size w0 w) (hg0 : w0.heap.size ≤ gs)
    (hi : imgE (s.at_ s.pick).n (s.at_ s.pick).v (s.at_ s.pick).c = 0) (ht : TabT w0) :
    Calls Tryd.prog 20 #[.pointer (some ⟨gd, 0, none⟩)] w fun e w' => e = .returned (.bool (!(rI s.pick == rI s.safe))) ∧
      (∃ (n : ByteArray) (v : Int) (c : ByteArray) (ev : Nat) (y0 y1 y2 y3 y4 y5 y6 y7 : Int), n = (s.at_ s.pick).n ∧ v = (s.at_ s.pick).v ∧ c = (s.at_ s.pick).c ∧ [y0, y1, y2, y3, y4, y5, y6, y7] = evBank [(0, imgM n v c)] ∧ EvsAt w' (some ⟨ev, 0, none⟩) [(0, imgM n v c)] ∧ ev < w'.heap.size ∧ w.heap.size ≤ ev ∧ Box w' gd 117 #[.int .i64 root, .int .i64 x, .pointer (some ⟨b + 1, 0, none⟩), .pointer (some ⟨gs, 0, none⟩), .int .i64 y0, .int .i64 y1, .int .i64 y2, .int .i64 y3, .int .i64 y4, .int .i64 y5, .int .i64 y6, .int .i64 y7, .slice (some ⟨ev, 0, none⟩) 1 1, .string n, .int .i64 v, .string c, .bool true]) ∧
      Box w' gs 148 ((startS s).cs) ∧ But (fun k => k = gs ∨ k = gd) w w' := by
  have HT := Lib.hid ht
  obtain ⟨P, hP⟩ : ∃ P, s.pick = P := ⟨_, rfl⟩
  obtain ⟨S, hS⟩ : ∃ S, s.safe = S := ⟨_, rfl⟩
  have HPK := Lib.hid (fun w hB => pick_at gs s P w hB hP)
  have HSF := Lib.hid (fun w hB => safe_at gs s S w hB hS)
  have HST := Lib.hid (fun w hB => startC gs s w hB hs)
  rw [hP] at HST hi ⊢
  rw [hS]
  obtain ⟨⟨n, v, c, p, a, f, t, g_⟩, hz⟩ : ∃ z, s.at_ P = z := ⟨_, rfl⟩
  rw [hz] at HST hi ⊢
  simp only [Slt.im] at HST
  simp only at hi
  obtain ⟨s', hs'⟩ : ∃ s', startS s = s' := ⟨_, rfl⟩
  rw [hs'] at HST ⊢
  have HI := Lib.hid hi
  have HK := Lib.hid (⟨hD, hB, h0⟩ : KeepE w0 gd gs s #[.int .i64 root, .int .i64 x, .pointer (some ⟨b + 1, 0, none⟩), .pointer (some ⟨gs, 0, none⟩), q4, q5, q6, q7, q8, q9, q10, q11, q12, q13, q14, q15, q16] w)
  have HL := Lib.hid hD.lt
  have hne : gd ≠ gs := by omega
  have hne2 : gs ≠ gd := by omega
  clear ht hi hD hB h0 hP hS hz hs'
  go_enter Tryd.func20, Tryd.ntmps20
  go_wp2_with fail
  refine region_quiet (fun w' => KeepF w0 w gd gs s #[.int .i64 root, .int .i64 x, .pointer (some ⟨b + 1, 0, none⟩), .pointer (some ⟨gs, 0, none⟩), q4, q5, q6, q7, q8, q9, q10, q11, q12, q13, q14, q15, q16] w') (by kernel_rfl) (by kernel_rfl) ⟨KeepE.below HK.out (grow_drew (grow_refl _)), grow_drew (grow_refl _)⟩ ?_
  repeat (go_big_quiet_step (first
    | (intro hC; rfl)
    | (intro hC; go_at_call 55; exact quiet_class (HPK.out _ hC.1.2.1) (fun w' hb => hC.below hb))
    | (intro hC; go_at_call 56; exact quiet_class (HSF.out _ hC.1.2.1) (fun w' hb => hC.below hb))
    | (intro hC; have e1 := hC.1.1.cell; simp only [e1]; rfl)
    | (intro hC; have e1 := hC.1.1.cell; simp [e1]; try rfl)))
  refine wpQuiet_nil ?_
  intro w1 E1
  have cD := E1.1.1.cell
  have lD := E1.1.1.lt
  have HE1 := Lib.hid E1
  clear E1 HK
  go_wp2_with fail
  refine (HST.out _ HE1.out.1.2.1).mono ?_
  rintro e w2 ⟨rfl, hB2, hk2⟩
  have HD2 := Lib.hid ((HE1.out.1.1.but hk2 hne).alloc_ (.cells #[.string n, .int .i64 v, .string c, .int .i64 p, .int .i64 a] 34))
  have HB2 := Lib.hid (hB2.alloc_ (.cells #[.string n, .int .i64 v, .string c, .int .i64 p, .int .i64 a] 34))
  have HX2 := Lib.hid (Box.new w2 34 #[.string n, .int .i64 v, .string c, .int .i64 p, .int .i64 a])
  have hbw2 : Below w0.heap.size w0 (w2.alloc (.cells #[.string n, .int .i64 v, .string c, .int .i64 p, .int .i64 a] 34)) := grow_alloc (HE1.out.1.2.2.trans (hk2.below HE1.out.1.2.2.size (by intro j h; have : j = gs := h; omega))) _
  have HBT : Hid (But (fun k => k = gs ∨ k = gd) w (w2.alloc (.cells #[.string n, .int .i64 v, .string c, .int .i64 p, .int .i64 a] 34))) := Lib.hid (((below_but HE1.out.2 (fun k => k = gs ∨ k = gd)).trans hk2 (fun k _ h => Or.inl h)).alloc _)
  have hgx : gd ≠ w2.heap.size := by have := (HE1.out.1.1.but hk2 hne).lt; omega
  have hgl : gd < w2.heap.size := (HE1.out.1.1.but hk2 hne).lt
  clear hB2 hk2 HE1 cD lD
  go_wp2_with fail
  refine (imgIs_any n v c _ HI.out (HT.out.below hbw2)).mono ?_
  rintro e w3 ⟨rfl, hb3⟩
  obtain ⟨M, hM⟩ : ∃ M, imgM n v c = M := ⟨_, rfl⟩
  have hok : okM M = true := by rw [← hM]; exact imgM_ok _ _ _
  have HMM := Lib.hid hM
  rw [hM]
  have GD : Box (w3.alloc (.cells #[.int .i64 0, .int .i64 M] 98)).drew gd 117 #[.int .i64 root, .int .i64 x, .pointer (some ⟨b + 1, 0, none⟩), .pointer (some ⟨gs, 0, none⟩), q4, q5, q6, q7, q8, q9, q10, q11, q12, q13, q14, q15, q16] := ((HD2.out.below hb3).alloc_ _).drew_
  have GB : Box (w3.alloc (.cells #[.int .i64 0, .int .i64 M] 98)).drew gs 148 (s'.cs) := ((HB2.out.below hb3).alloc_ _).drew_
  have GX : Box (w3.alloc (.cells #[.int .i64 0, .int .i64 M] 98)).drew w2.heap.size 34 #[.string n, .int .i64 v, .string c, .int .i64 p, .int .i64 a] := ((HX2.out.below hb3).alloc_ _).drew_
  have GT : But (fun k => k = gs ∨ k = gd) w (w3.alloc (.cells #[.int .i64 0, .int .i64 M] 98)).drew := ((HBT.out.trans (below_but hb3 (fun k => k = gs ∨ k = gd)) (fun _ _ h => h)).alloc _).drew
  have hE0 : EvsAt (w3.alloc (.cells #[.int .i64 0, .int .i64 M] 98)) (some ⟨w3.heap.size, 0, none⟩) [(0, M)] := EvsAt.of_cells (CellsAt.new_ w3 98 (evCells [(0, M)]) (0, 0))
  have GE := hE0.below (grow_drew (grow_refl _))
  have GV : Box (w3.alloc (.cells #[.int .i64 0, .int .i64 M] 98)).drew w3.heap.size 98 #[.int .i64 0, .int .i64 M] := (Box.new w3 98 #[.int .i64 0, .int .i64 M]).drew_
  have hgv : gd < w3.heap.size := by have := (HD2.out.below hb3).lt; omega
  have hws : w.heap.size ≤ w3.heap.size := by have h1 := HBT.out.size; have h2 := hb3.size; omega
  have hall : ([(0, M)] : List (Int × Int)).all okEv = true := by simp [okEv, hok]; decide
  clear hM hb3 hbw2 HD2 HX2 HB2 HBT hE0 hok
  go_upto_region 5 with fail
  have hgx2 := hgx.symm
  go_region_held3 (fun w' => (∀ i, w'.cell? ⟨w2.heap.size, i, none⟩ = (#[.string n, .int .i64 v, .string c, .int .i64 p, .int .i64 a] : Array Value)[i]?))
    (first
      | (with_reducible exact GX.cell)
      | (go_keep; done)
      | (intro i; have h := GX.cell i; simp [hgx, hgx2, h]; done))
    (first
      | (go_at_call 58; refine (again_any (some ⟨w3.heap.size, 0, none⟩) 1 [(0, M)] _ GE (by simp) hall).mono ?_; rintro e w5 ⟨y0, y1, y2, y3, y4, y5, y6, y7, hy, rfl, hb5⟩; have GD := GD.below hb5; have GX := GX.below hb5; have GB := GB.below hb5; have GV := GV.below hb5; have GT := GT.trans (below_but hb5 (fun k => k = gs ∨ k = gd)) (fun _ _ h => h); have cD := GD.cell; have lD := GD.lt; have fD := GD.frozen; have cX := GX.cell))
  go_wp2_with fail
  go_ret
  have hnv : w3.heap.size ≠ gd := by omega
  have K0 : But (fun k => k = gd) w5 w5 := But.refl _ _
  have KR : (fun k => k = gd) gd := rfl
  refine ⟨rfl, ⟨n, v, c, w3.heap.size, y0, y1, y2, y3, y4, y5, y6, y7, rfl, rfl, rfl, by rw [HMM.out]; exact hy, ?_, ?_, hws, ?_⟩, ?_, ?_⟩
  · rw [HMM.out]
    refine EvsAt.of_box1 (GV.but (S := fun k => k = gd) ?_ hnv)
    exact ((((((But.put8 K0 (b := gd) KR).setCell (p := ⟨gd, 12, none⟩) (Or.inl KR) _).setCell (p := ⟨gd, 13, none⟩) (Or.inl KR) _).setCell (p := ⟨gd, 14, none⟩) (Or.inl KR) _).setCell (p := ⟨gd, 15, none⟩) (Or.inl KR) _).setCell (p := ⟨gd, 16, none⟩) (Or.inl KR) _)
  · have h := GV.lt
    simpa [World.setCell] using h
  · refine Box.cast ((((((Box.put8 GD 4 5 6 7 8 9 10 11 _ _ _ _ _ _ _ _).set_ 12 _).set_ 13 _).set_ 14 _).set_ 15 _).set_ 16 _) ?_
    simp
  · refine GB.but (S := fun k => k = gd) ?_ hne2
    exact ((((((But.put8 K0 (b := gd) KR).setCell (p := ⟨gd, 12, none⟩) (Or.inl KR) _).setCell (p := ⟨gd, 13, none⟩) (Or.inl KR) _).setCell (p := ⟨gd, 14, none⟩) (Or.inl KR) _).setCell (p := ⟨gd, 15, none⟩) (Or.inl KR) _).setCell (p := ⟨gd, 16, none⟩) (Or.inl KR) _)
  · exact ((((((But.put8 GT (Or.inr rfl)).setCell (p := ⟨gd, 12, none⟩) (Or.inl (Or.inr rfl)) _).setCell (p := ⟨gd, 13, none⟩) (Or.inl (Or.inr rfl)) _).setCell (p := ⟨gd, 14, none⟩) (Or.inl (Or.inr rfl)) _).setCell (p := ⟨gd, 15, none⟩) (Or.inl (Or.inr rfl)) _).setCell (p := ⟨gd, 16, none⟩) (Or.inl (Or.inr rfl)) _)

end Go.Proofs.YtdedllfgeekogaaDoor
