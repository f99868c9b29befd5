/- SlotFirst: at first the first, and it is good already. The package variable errors.errorType holds what the program's text lays. -/
import Derived.Test.YtnocigkfhdnhfaaDoorRows
import Derived.Test.YtnocigkfhdnhfaaDoorOpen
import Derived.Test.YtnocigkfhdnhfaaDoorOpI
import Derived.Test.YtnocigkfhdnhfaaDoorImg
import Derived.Test.YtnocigkfhdnhfaaDoorFoot
import Derived.Test.YtnocigkfhdnhfaaDoorSlot
import Derived.Test.YtnocigkfhdnhfaaDoorSlot2
import Derived.Test.YtnocigkfhdnhfaaDoorSgEq
import Derived.Test.YtnocigkfhdnhfaaDoorTold
import Derived.Test.YtnocigkfhdnhfaaDoorBds
import Derived.Test.YtnocigkfhdnhfaaDoorLiftD
import Derived.WalkKit
import Derived.WalkSpells
import Derived.Lib.Hide
import Derived.Deep.RegionHeld3
namespace Go.Proofs.YtnocigkfhdnhfaaDoor
open Go.ChangeShapes Go.WideShapes Go.ChangeAt Go.RowKit
set_option linter.unusedVariables false
set_option maxRecDepth 100000

def fst_ (n : ByteArray) (v : Int) (c : ByteArray) (p a : Int) : Slts := ⟨⟨n, v, c, p, a, true, 0, true⟩, noSlt, false⟩
section
variable (g : Nat) (n : ByteArray) (v : Int) (c : ByteArray) (p a : Int) (w : World) (hB : Box w g 109 (fst_ n v c p a).cs)
include hB
theorem at0F : Calls Tryd.prog 26 #[.pointer (some ⟨g, 0, none⟩), .int .i64 0] w fun e w' => e = .returned (.tuple #[.agg #[.string n, .int .i64 v, .string c, .int .i64 p, .int .i64 a, .bool true, .int .i64 0, .bool true], errV 0]) ∧ Below w.heap.size w w' := at_any g (fst_ n v c p a) false w hB
theorem at1F : Calls Tryd.prog 26 #[.pointer (some ⟨g, 0, none⟩), .int .i64 1] w fun e w' => e = .returned (.tuple #[.agg #[.string ⟨#[]⟩, .int .i64 0, .string ⟨#[]⟩, .int .i64 0, .int .i64 0, .bool false, .int .i64 0, .bool false], errV 0]) ∧ Below w.heap.size w w' := at_any g (fst_ n v c p a) true w hB
theorem goodF : Calls Tryd.prog 27 #[.pointer (some ⟨g, 0, none⟩)] w fun e w' => e = .returned (errV 7) ∧ Below w.heap.size w w' := good_no g (fst_ n v c p a) w hB rfl
theorem pickF : Calls Tryd.prog 28 #[.pointer (some ⟨g, 0, none⟩)] w fun e w' => e = .returned (.int .i64 0) ∧ Below w.heap.size w w' := pick_at g (fst_ n v c p a) false w hB rfl
theorem startF : Calls Tryd.prog 29 #[.pointer (some ⟨g, 0, none⟩)] w fun e w' => e = .returned (.agg #[.string n, .int .i64 v, .string c, .int .i64 p, .int .i64 a]) ∧ Box w' g 109 (fst_ n v c p a).cs ∧ But (fun k => k = g) w w' :=
  (start_at g (fst_ n v c p a) false w hB rfl ⟨(by decide : (0 : Int) ≤ 0), (by decide : (0 : Int) ≤ 1000)⟩).mono fun e w' h => ⟨h.1, h.2.1, h.2.2⟩
end
/-- What the last region keeps. -/
def KeepF (w0 : World) (g5 g7 g : Nat) (n : ByteArray) (v : Int) (c : ByteArray) (p a : Int) (w : World) : Prop :=
  Box w w0.heap.size 53 #[.string n, .int .i64 v, .string c, .int .i64 p, .int .i64 a] ∧ Box w g5 58 #[.string n, .int .i64 v, .string c, .int .i64 p, .int .i64 a, .bool true, .int .i64 0, .bool true] ∧ Box w g7 58 #[.string ⟨#[]⟩, .int .i64 0, .string ⟨#[]⟩, .int .i64 0, .int .i64 0, .bool false, .int .i64 0, .bool false] ∧ Box w g 109 (fst_ n v c p a).cs ∧ Below w0.heap.size w0 w
theorem KeepF.but {w0 : World} {g5 g7 g : Nat} {n : ByteArray} {v : Int} {c : ByteArray} {p a : Int} {w w' : World} (h : KeepF w0 g5 g7 g n v c p a w) (hb : Box w' g 109 (fst_ n v c p a).cs) (k : But (fun k => k = g) w w') (h5 : g < g5) (h7 : g < g7) (h0 : w0.heap.size < g) : KeepF w0 g5 g7 g n v c p a w' :=
  ⟨h.1.but k (by show w0.heap.size ≠ g; omega), h.2.1.but k (by show g5 ≠ g; omega), h.2.2.1.but k (by show g7 ≠ g; omega), hb, h.2.2.2.2.trans (k.below h.2.2.2.2.size (fun j hj => by have : j = g := hj; omega))⟩
theorem KeepF.below {w0 : World} {g5 g7 g : Nat} {n : ByteArray} {v : Int} {c : ByteArray} {p a : Int} {w w' : World} (h : KeepF w0 g5 g7 g n v c p a w) (hb : Below w.heap.size w w') : KeepF w0 g5 g7 g n v c p a w' :=
  ⟨h.1.below hb, h.2.1.below hb, h.2.2.1.below hb, h.2.2.2.1.below hb, grow_step h.2.2.2.2 hb⟩
theorem KeepF.drew {w0 : World} {g5 g7 g : Nat} {n : ByteArray} {v : Int} {c : ByteArray} {p a : Int} {w : World} (h : KeepF w0 g5 g7 g n v c p a w) : KeepF w0 g5 g7 g n v c p a w.drew :=
  ⟨h.1.drew_, h.2.1.drew_, h.2.2.1.drew_, h.2.2.2.1.drew_, grow_drew h.2.2.2.2⟩

set_option maxHeartbeats 4000000 in
theorem slotFirst_walk (w : World) (n : ByteArray) (v : Int) (c : ByteArray) (p a : Int) (iv : I64 v) (hn : n.size ≤ 140737488351232) (hc : c.size ≤ 140737488351232) (ip : I64 p) (ia : I64 a) (hg : Door w) :
    Calls Tryd.prog 7 #[.agg #[.string n, .int .i64 v, .string c, .int .i64 p, .int .i64 a]] w fun e w' => e = .returned (.bool true) ∧ Below w.heap.size w w' := by
  have en := fun k w => err_neq k w
  have ee := fun k w => err_eql k w
  have gn := fun o k w => err_guard_neq o k w
  have ge := fun o k w => err_guard_eql o k w
  have HG := Lib.hid hg
  have HS0 := Lib.hid (Box.new w 53 #[.string n, .int .i64 v, .string c, .int .i64 p, .int .i64 a])
  clear hg
  by_cases h0 : imgE n v c = 0
  · have HI := Lib.hid h0
    clear h0
    have q1 := fun w => eqSg n v c p a hn hc iv ip ia w
    have q2 := fun o q w => guardSg (.string n) (.int .i64 v) (.string c) (.int .i64 p) (.int .i64 a) (.string n) (.int .i64 v) (.string c) (.int .i64 p) (.int .i64 a) .eql o q w
    go_enter Tryd.func7, Tryd.ntmps7
    go_wp2_with fail
    refine (slotNew_yes n v c p a _ (by omega) (by omega) HI.out).mono ?_
    rintro e w1 ⟨g, rfl, hB1, hg1, hb1⟩
    have HB1 : Hid (Box w1 g 109 (fst_ n v c p a).cs) := Lib.hid hB1
    have HS1 := Lib.hid (HS0.out.below hb1)
    have hbw1 : Below w.heap.size w w1 := grow_step (grow_alloc (grow_refl _) _) hb1
    have hgw : w.heap.size < g := by simp at hg1; omega
    clear hB1 hb1 hg1 HS0
    go_wp2_with fail
    refine (at0F g n v c p a _ HB1.out).mono ?_
    rintro e w2 ⟨rfl, hb2⟩
    have HB2 := Lib.hid ((HB1.out.below hb2).alloc_ (.cells #[.string n, .int .i64 v, .string c, .int .i64 p, .int .i64 a, .bool true, .int .i64 0, .bool true] 58))
    have HS2 := Lib.hid ((HS1.out.below hb2).alloc_ (.cells #[.string n, .int .i64 v, .string c, .int .i64 p, .int .i64 a, .bool true, .int .i64 0, .bool true] 58))
    have HX2 := Lib.hid (Box.new w2 58 #[.string n, .int .i64 v, .string c, .int .i64 p, .int .i64 a, .bool true, .int .i64 0, .bool true])
    have hg2 : g < w2.heap.size := (HB1.out.below hb2).lt
    have hbw2 : Below w.heap.size w w2 := grow_step hbw1 hb2
    clear hb2 HB1 HS1 hbw1
    go_wp2_with fail
    refine (at1F g n v c p a _ HB2.out).mono ?_
    rintro e w3 ⟨rfl, hb3⟩
    have HB3 := Lib.hid ((HB2.out.below hb3).alloc_ (.cells #[.string ⟨#[]⟩, .int .i64 0, .string ⟨#[]⟩, .int .i64 0, .int .i64 0, .bool false, .int .i64 0, .bool false] 58))
    have HS3 := Lib.hid ((HS2.out.below hb3).alloc_ (.cells #[.string ⟨#[]⟩, .int .i64 0, .string ⟨#[]⟩, .int .i64 0, .int .i64 0, .bool false, .int .i64 0, .bool false] 58))
    have HX3 := Lib.hid ((HX2.out.below hb3).alloc_ (.cells #[.string ⟨#[]⟩, .int .i64 0, .string ⟨#[]⟩, .int .i64 0, .int .i64 0, .bool false, .int .i64 0, .bool false] 58))
    have HY3 := Lib.hid (Box.new w3 58 #[.string ⟨#[]⟩, .int .i64 0, .string ⟨#[]⟩, .int .i64 0, .int .i64 0, .bool false, .int .i64 0, .bool false])
    have hg3 : g < w3.heap.size := (HB2.out.below hb3).lt
    have hbw3 : Below w.heap.size w w3 := grow_step (grow_alloc hbw2 _) hb3
    clear hb3 HB2 HS2 HX2 hbw2
    go_wp2_with fail
    refine (goodF g n v c p a _ HB3.out).mono ?_
    rintro e w4 ⟨rfl, hb4⟩
    have hbw4 : Below w.heap.size w w4 := grow_step (grow_alloc hbw3 _) hb4
    have HK : Hid (KeepF w w2.heap.size w3.heap.size g n v c p a w4) := Lib.hid ⟨HS3.out.below hb4, HX3.out.below hb4, HY3.out.below hb4, HB3.out.below hb4, hbw4⟩
    have cS := HK.out.1.cell
    have lS := HK.out.1.lt
    have cX := HK.out.2.1.cell
    have lX := HK.out.2.1.lt
    have cY := HK.out.2.2.1.cell
    have lY := HK.out.2.2.1.lt
    clear hb4 HB3 HS3 HX3 HY3 hbw3
    go_wp2_with fail
    have HKD := HK.out.drew
    clear cS lS cX lX cY lY
    go_region_held3 (fun w' => (∀ i, w'.cell? ⟨w.heap.size, i, none⟩ = (#[.string n, .int .i64 v, .string c, .int .i64 p, .int .i64 a] : Array Value)[i]?) ∧ (∀ i, w'.cell? ⟨w2.heap.size, i, none⟩ = (#[.string n, .int .i64 v, .string c, .int .i64 p, .int .i64 a, .bool true, .int .i64 0, .bool true] : Array Value)[i]?) ∧ (∀ i, w'.cell? ⟨w3.heap.size, i, none⟩ = (#[.string ⟨#[]⟩, .int .i64 0, .string ⟨#[]⟩, .int .i64 0, .int .i64 0, .bool false, .int .i64 0, .bool false] : Array Value)[i]?) ∧ KeepF w w2.heap.size w3.heap.size g n v c p a w')
      (first
        | exact ⟨E1.1.cell, E1.2.1.cell, E1.2.2.1.cell, E1⟩
        | exact ⟨HKD.1.cell, HKD.2.1.cell, HKD.2.2.1.cell, HKD⟩
        | (go_keep; done))
      (first
        | (go_at_call 16; go_split_ands; have p1 : KeepF w w2.heap.size w3.heap.size g n v c p a _ := (by assumption); refine (error_any 7 7 _ (HG.out.below p1.2.2.2.2) (i64_small (by decide) (by decide))).mono ?_; rintro e w6 ⟨rfl, hb6⟩; have E1 := p1.below hb6; clear p1)
        | (go_at_call 28; go_split_ands; have p1 : KeepF w w2.heap.size w3.heap.size g n v c p a _ := (by assumption); refine (pickF g n v c p a _ p1.2.2.2.1).mono ?_; rintro e w6 ⟨rfl, hb6⟩; have E1 := p1.below hb6; clear p1)
        | (go_at_call 29; go_split_ands; have p1 : KeepF w w2.heap.size w3.heap.size g n v c p a _ := (by assumption); refine (startF g n v c p a _ p1.2.2.2.1).mono ?_; rintro e w6 ⟨rfl, hB6, hb6⟩; have E1 := p1.but hB6 hb6 hg2 hg3 hgw; clear p1))
    go_wp2_with fail
    go_ret
    exact ⟨by simp, E1.2.2.2.2⟩
  · obtain ⟨E, hE⟩ : ∃ E, imgE n v c = E := ⟨_, rfl⟩
    have HE := Lib.hid hE
    have HN := Lib.hid h0
    rw [hE] at h0
    have t : (E != 0) = true := by simp [h0]
    clear hE h0
    go_enter Tryd.func7, Tryd.ntmps7
    go_wp2_with fail
    refine (slotNew_no n v c p a _ (by omega) (by omega) HN.out).mono ?_
    rintro e w1 ⟨rfl, hb1⟩
    rw [HE.out]
    have S1 := HS0.out.below hb1
    have cS := S1.cell
    have lS := S1.lt
    have hbw1 : Below w.heap.size w w1 := grow_step (grow_alloc (grow_refl _) _) hb1
    clear S1 hb1
    go_wp2_with fail
    refine (imgCheck_any n v c _ (by omega) (by omega)).mono ?_
    rintro e w2 ⟨rfl, hb2⟩
    rw [HE.out]
    go_wp2_with fail
    go_ret
    exact ⟨rfl, (by repeat (first | (with_reducible exact grow_refl _) | (with_reducible assumption) | (with_reducible refine grow_alloc ?_ _) | (with_reducible refine grow_set ?_ (by first | exact Nat.le_refl _ | (simp; done) | (simp; omega) | omega) _) | (with_reducible refine grow_drewN ?_ _) | (with_reducible refine grow_drew ?_) | (with_reducible refine grow_step ?_ (by assumption)) | (with_reducible refine grow_base ?_ (by assumption))))⟩

set_option maxRecDepth 100000 in
theorem slotFirst_walks (H : Type) (enc : TypeId × Value → H) : WalksD enc Tryd.prog Door 7 Tryd.f7 := by
  intro W base args ds p hval hA hlt hsz hsh hdoor
  have hsz0 := hsz
  rw [Tryd.params7] at hA hval
  obtain ⟨v0, vs0, d0, ds0, p0, q0, hargs, rfl, rfl, h0, r0⟩ := trodAll_cons hA
  obtain ⟨rfl, rfl, rfl⟩ := trodAll_nil r0
  obtain rfl : args = #[v0] := by cases args; simp_all
  obtain ⟨a0, b0, c0, p0_, q0_, rfl, w0, u0, z0, y0, t0⟩ := op_signed (hval 0 53 v0 rfl rfl) h0 (w_each hsz 0 53 _ (by rw [Tryd.params7]; rfl) rfl)
  exact slotFirst_walk W a0 b0 c0 p0_ q0_ w0 u0 z0 y0 t0 hdoor

set_option maxRecDepth 100000 in
theorem slotFirst_lifted (os : Os) (started : os.Started) (H : Type) (enc : TypeId × Value → H) :
    ReturnsInHanded {} Tryd.checked os 7 .any (fun w args => (Rows.slotFirstSpec.pre enc Tryd.checked.prog Tryd.f7 [] false w args ∧ laidMetH Tryd.checked.prog LaidD w) ∧ sizedMet enc Tryd.checked.prog Tryd.f7 (OpenSpec.ofChange Rows.slotFirstSpec) false w args) (Rows.slotFirstSpec.post enc Tryd.checked.prog Tryd.f7 false true false false) :=
  returns_of_walkD (C := Tryd.checked) (s := Rows.slotFirstSpec) (L := LaidD) (D := Door) own started (by kernel_rfl) Tryd.func7
    (ChangeSpec.witness_at (enc := enc) (C := Tryd.checked) (os := os) (X := fun w _ => laidMetH Tryd.prog LaidD w) false (laidWorld os) #[.agg #[.string ⟨#[]⟩, .int .i64 0, .string ⟨#[]⟩, .int .i64 0, .int .i64 0]] 8 rfl (by kernel_rfl) (by kernel_rfl) (by kernel_rfl) (by kernel_rfl) (by kernel_rfl) (laidWorld_met os _))
    (fun W h => door_of_laid h) laidOut (by kernel_rfl) rfl Tryd.underlying4 rfl (fun ds h => by match ds, h with | [_], _ => rfl) (slotFirst_walks H enc)

theorem slotFirst_bare : Rows.SlotFirstSaid :=
  OpenClaim.holds_of_wide 7 Tryd.f7 rfl rfl rfl rfl rfl rfl rfl ⟨rfl, rfl, rfl, rfl, rfl⟩ rfl rfl rfl rfl rfl (by kernel_rfl) Tryd.func7 (by kernel_rfl)
    (of_decide_eq_true (by kernel_rfl)) (by unfold Func.isWrapper; rw [if_neg (of_decide_eq_false (by kernel_rfl))]; exact ⟨rfl, rfl⟩)
    (fun os started H enc _ => slotFirst_lifted os started H enc)

theorem slotFirst_holds : Rows.SlotFirstCardSaid :=
  Claim7.holds_tied_plain_at .later [] [.handle] true Rows.slotFirstCard.stood.harness true
    slotFirst_bare (fun _ h => by cases h) (by kernel_rfl) (fun _ h => by cases h) slotFirst_row_tie rfl ⟨rfl, rfl⟩ (by kernel_rfl) rfl
    (fun f fn hf hfn => by
      obtain rfl : f = 7 := Option.some.inj ((show Tryd.prog.funcNamed "bootstair/stairlaw4.SlotFirst" = some 7 by kernel_rfl).symm.trans hf) |>.symm
      obtain rfl : fn = Tryd.f7 := (Option.some.inj (Tryd.func7.symm.trans hfn)).symm
      exact ⟨by kernel_rfl, fun j t ht => by
        have hm : t ∈ Tryd.f7.params.toList := by simpa using Array.mem_of_getElem? ht
        have hall : (Tryd.f7.params.toList.all fun u => !Tryd.prog.wantsStandIn u) = true := by kernel_rfl
        exact (show Tryd.prog.wantsStandIn t = false by simpa using List.all_eq_true.1 hall t hm)⟩)
    (by kernel_rfl)

end Go.Proofs.YtnocigkfhdnhfaaDoor
