/- SignNone: an image that nobody signed is not right. The listed package variables hold what the program's text lays. -/
import Derived.Test.YtnocigkfhdnhfaaDoorRows
import Derived.Test.YtnocigkfhdnhfaaDoorOpen
import Derived.Test.YtnocigkfhdnhfaaDoorOpI
import Derived.Test.YtnocigkfhdnhfaaDoorKey
import Derived.Test.YtnocigkfhdnhfaaDoorImg
import Derived.Test.YtnocigkfhdnhfaaDoorImg2
import Derived.Test.YtnocigkfhdnhfaaDoorSign
import Derived.Test.YtnocigkfhdnhfaaDoorTold
import Derived.Test.YtnocigkfhdnhfaaDoorBds
import Derived.Test.YtnocigkfhdnhfaaDoorLiftD
import Derived.Test.YtnocigkfhdnhfaaDoorLiftT
import Derived.WalkKit
import Derived.WalkSpells
import Derived.Lib.Hide
namespace Go.Proofs.YtnocigkfhdnhfaaDoor
open Go.ChangeShapes Go.WideShapes Go.ChangeAt Go.RowKit
set_option linter.unusedVariables false
set_option maxRecDepth 100000

theorem signE_none (q : Int) (n : ByteArray) (v : Int) (c : ByteArray) : signE q n v c 0 0 ≠ 0 := by
  unfold signE
  by_cases h : imgE n v c = 0
  · rw [if_pos h]
    have : rightE q (imgM n v c) 0 0 = 1 := by
      unfold rightE okSeal
      have : okIn 0 = false := by decide
      rw [this]; simp
    rw [this]; decide
  · rw [if_neg h]; exact h

set_option maxHeartbeats 1000000 in
theorem signNone_walk (w : World) (q : Int) (n : ByteArray) (v : Int) (c : ByteArray) (i0 : I64 q) (i1 : I64 v) (hn : n.size ≤ 140737488351232) (hc : c.size ≤ 140737488351232) (ht : TabT w) :
    Calls Tryd.prog 9 #[.int .i64 q, .agg #[.string n, .int .i64 v, .string c]] w fun e w' => e = .returned (.bool true) ∧ Below w.heap.size w w' := by
  have en := fun k w => err_neq k w
  have gn := fun o k w => err_guard_neq o k w
  have HT := Lib.hid ht
  clear ht
  obtain ⟨E, hE⟩ : ∃ E, signE q n v c 0 0 = E := ⟨_, rfl⟩
  have h0 : E ≠ 0 := by rw [← hE]; exact signE_none q n v c
  have t : (E != 0) = true := by simp [h0]
  have HE := Lib.hid hE
  clear hE h0
  go_enter Tryd.func9, Tryd.ntmps9
  go_wp2_with fail
  refine (signCheck_any q n v c 0 0 _ (by omega) (by omega) (HT.out.below (grow_alloc (grow_refl _) _))).mono ?_
  rintro e w1 ⟨rfl, hb1⟩
  rw [HE.out]
  go_wp2_with fail
  go_ret
  exact ⟨rfl, (by repeat (first | (with_reducible exact grow_refl _) | (with_reducible assumption) | (with_reducible refine grow_alloc ?_ _) | (with_reducible refine grow_set ?_ (by first | exact Nat.le_refl _ | (simp; done) | (simp; omega) | omega) _) | (with_reducible refine grow_drewN ?_ _) | (with_reducible refine grow_drew ?_) | (with_reducible refine grow_step ?_ (by assumption)) | (with_reducible refine grow_base ?_ (by assumption))))⟩

set_option maxRecDepth 100000 in
theorem signNone_walks (H : Type) (enc : TypeId × Value → H) : WalksD enc Tryd.prog TabT 9 Tryd.f9 := by
  intro W base args ds p hval hA hlt hsz hsh hdoor
  have hsz0 := hsz
  rw [Tryd.params9] at hA hval
  obtain ⟨v0, vs0, d0, ds0, p0, q0, hargs, rfl, rfl, h0, r0⟩ := trodAll_cons hA
  obtain ⟨v1, vs1, d1, ds1, p1, q1, rfl, rfl, rfl, h1, r1⟩ := trodAll_cons r0
  obtain ⟨rfl, rfl, rfl⟩ := trodAll_nil r1
  obtain rfl : args = #[v0, v1] := by cases args; simp_all
  obtain ⟨a0, rfl, w0⟩ := op_int (hval 0 3 v0 rfl rfl) h0
  obtain ⟨a1, b1, c1, rfl, w1, u1, z1⟩ := op_image (hval 1 26 v1 rfl rfl) h1 (w_each hsz 1 26 _ (by rw [Tryd.params9]; rfl) rfl)
  exact signNone_walk W a0 a1 b1 c1 w0 w1 u1 z1 hdoor

set_option maxRecDepth 100000 in
theorem signNone_lifted (os : Os) (started : os.Started) (H : Type) (enc : TypeId × Value → H) :
    ReturnsInHanded {} Tryd.checked os 9 .any (fun w args => (Rows.signNoneSpec.pre enc Tryd.checked.prog Tryd.f9 [] false w args ∧ laidMetH Tryd.checked.prog LaidT w) ∧ sizedMet enc Tryd.checked.prog Tryd.f9 (OpenSpec.ofChange Rows.signNoneSpec) false w args) (Rows.signNoneSpec.post enc Tryd.checked.prog Tryd.f9 false true false false) :=
  returns_of_walkD (C := Tryd.checked) (s := Rows.signNoneSpec) (L := LaidT) (D := TabT) own started (by kernel_rfl) Tryd.func9
    (ChangeSpec.witness_at (enc := enc) (C := Tryd.checked) (os := os) (X := fun w _ => laidMetH Tryd.prog LaidT w) false (laidWorldT os) #[.int .i64 0, .agg #[.string ⟨#[]⟩, .int .i64 0, .string ⟨#[]⟩]] 8 rfl (by kernel_rfl) (by kernel_rfl) (by kernel_rfl) (by kernel_rfl) (by kernel_rfl) (laidWorldT_met os _))
    (fun W h => tabT_of_laid h) laidOut (by kernel_rfl) rfl Tryd.underlying4 rfl (fun ds h => by match ds, h with | [_, _], _ => rfl) (signNone_walks H enc)

theorem signNone_bare : Rows.SignNoneSaid :=
  OpenClaim.holds_of_wide 9 Tryd.f9 rfl rfl rfl rfl rfl rfl rfl ⟨rfl, rfl, rfl, rfl, rfl⟩ rfl rfl rfl rfl rfl (by kernel_rfl) Tryd.func9 (by kernel_rfl)
    (of_decide_eq_true (by kernel_rfl)) (by unfold Func.isWrapper; rw [if_neg (of_decide_eq_false (by kernel_rfl))]; exact ⟨rfl, rfl⟩)
    (fun os started H enc _ => signNone_lifted os started H enc)

theorem signNone_holds : Rows.SignNoneCardSaid :=
  Claim7.holds_tied_plain_at .later [] [.data, .data, .data] true Rows.signNoneCard.stood.harness true
    signNone_bare (fun _ h => by cases h) (by kernel_rfl) (fun _ h => by cases h) signNone_row_tie rfl ⟨rfl, rfl⟩ (by kernel_rfl) rfl
    (fun f fn hf hfn => by
      obtain rfl : f = 9 := Option.some.inj ((show Tryd.prog.funcNamed "bootstair/stairlaw4.SignNone" = some 9 by kernel_rfl).symm.trans hf) |>.symm
      obtain rfl : fn = Tryd.f9 := (Option.some.inj (Tryd.func9.symm.trans hfn)).symm
      exact ⟨by kernel_rfl, fun j t ht => by
        have hm : t ∈ Tryd.f9.params.toList := by simpa using Array.mem_of_getElem? ht
        have hall : (Tryd.f9.params.toList.all fun u => !Tryd.prog.wantsStandIn u) = true := by kernel_rfl
        exact (show Tryd.prog.wantsStandIn t = false by simpa using List.all_eq_true.1 hall t hm)⟩)
    (by kernel_rfl)

end Go.Proofs.YtnocigkfhdnhfaaDoor
