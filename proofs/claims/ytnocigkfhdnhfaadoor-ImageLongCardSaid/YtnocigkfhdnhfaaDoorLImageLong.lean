/- ImageLong: eight letters, and no more. The package variable errors.errorType holds what the program's text lays. -/
import Derived.Test.YtnocigkfhdnhfaaDoorRows
import Derived.Test.YtnocigkfhdnhfaaDoorOpen
import Derived.Test.YtnocigkfhdnhfaaDoorImg
import Derived.Test.YtnocigkfhdnhfaaDoorTold
import Derived.Test.YtnocigkfhdnhfaaDoorBds
import Derived.Test.YtnocigkfhdnhfaaDoorLiftD
import Derived.WalkKit
import Derived.WalkSpells
import Derived.Lib.Hide
namespace Go.Proofs.YtnocigkfhdnhfaaDoor
open Go.ChangeShapes Go.WideShapes Go.ChangeAt Go.RowKit
set_option linter.unusedVariables false
set_option maxRecDepth 100000

abbrev twelve : ByteArray := { data := #[97, 98, 99, 100, 101, 102, 103, 104, 105, 106, 107, 108] }
theorem twelve_low : ∀ k, k < 13 → lowS (twelve.extract 0 k) = true ∧ (twelve.extract 0 k).size = k := by decide
theorem low_none : lowS { data := #[] } = true := by decide
theorem twelve_img (k : Nat) (v : Int) (hk : k ≤ 12) : imgE (twelve.extract 0 k) v { data := #[] } = if k = 0 then 3 else if 8 < k then 4 else if v < 1 ∨ 1000 < v then 1 else 0 := by
  obtain ⟨h1, h2⟩ := twelve_low k (by omega)
  unfold imgE
  rw [h1, h2, low_none]
  have e : ({ data := #[] } : ByteArray).size = 0 := rfl
  rw [e]
  simp

set_option maxHeartbeats 2000000 in
theorem imageLong_walk (w : World) (n v : Int) (i0 : I64 n) (i1 : I64 v) (hg : Door w) :
    Calls Tryd.prog 3 #[.int .i64 n, .int .i64 v] w fun e w' => e = .returned (.bool true) ∧ Below w.heap.size w w' := by
  have en := fun k w => err_neq k w
  have ee := fun k w => err_eql k w
  have gn := fun o k w => err_guard_neq o k w
  have ge := fun o k w => err_guard_eql o k w
  have HG := Lib.hid hg
  clear hg
  by_cases c1 : n < 0
  · go_enter Tryd.func3, Tryd.ntmps3
    go_wp2_with fail
    go_ret
    exact ⟨rfl, (by repeat (first | (with_reducible exact grow_refl _) | (with_reducible assumption) | (with_reducible refine grow_alloc ?_ _) | (with_reducible refine grow_set ?_ (by first | exact Nat.le_refl _ | (simp; done) | (simp; omega) | omega) _) | (with_reducible refine grow_drewN ?_ _) | (with_reducible refine grow_drew ?_) | (with_reducible refine grow_step ?_ (by assumption)) | (with_reducible refine grow_base ?_ (by assumption))))⟩
  by_cases c2 : n > 12
  · go_enter Tryd.func3, Tryd.ntmps3
    go_wp2_with fail
    go_ret
    exact ⟨rfl, (by repeat (first | (with_reducible exact grow_refl _) | (with_reducible assumption) | (with_reducible refine grow_alloc ?_ _) | (with_reducible refine grow_set ?_ (by first | exact Nat.le_refl _ | (simp; done) | (simp; omega) | omega) _) | (with_reducible refine grow_drewN ?_ _) | (with_reducible refine grow_drew ?_) | (with_reducible refine grow_step ?_ (by assumption)) | (with_reducible refine grow_base ?_ (by assumption))))⟩
  obtain ⟨k, rfl⟩ := Int.eq_ofNat_of_zero_le (show 0 ≤ n by omega)
  have hk : k ≤ 12 := by omega
  have HI := Lib.hid (twelve_img k v hk)
  have HS := Lib.hid (twelve_low k (by omega)).2
  obtain ⟨E, hE⟩ : ∃ E, imgE (twelve.extract 0 k) v { data := #[] } = E := ⟨_, rfl⟩
  have HE := Lib.hid hE
  clear hE
  go_enter Tryd.func3, Tryd.ntmps3
  go_wp2_with fail
  refine (imgCheck_any _ v _ _ (by show (twelve.extract 0 k).size ≤ _; rw [HS.out]; omega) (by decide)).mono ?_
  rintro e w1 ⟨rfl, hb1⟩
  rw [show imgE _ v _ = E from HE.out]
  have hi := HI.out
  rw [HE.out] at hi
  clear HE HI HS
  by_cases h0 : k = 0
  · subst h0
    rw [if_pos rfl] at hi
    subst hi
    go_wp2_with fail
    refine (error_any 3 3 _ (HG.out.below (by repeat (first | (with_reducible exact grow_refl _) | (with_reducible assumption) | (with_reducible refine grow_alloc ?_ _) | (with_reducible refine grow_set ?_ (by first | exact Nat.le_refl _ | (simp; done) | (simp; omega) | omega) _) | (with_reducible refine grow_drewN ?_ _) | (with_reducible refine grow_drew ?_) | (with_reducible refine grow_step ?_ (by assumption)) | (with_reducible refine grow_base ?_ (by assumption))))) (i64_small (by decide) (by decide))).mono ?_
    rintro e w2 ⟨rfl, hb2⟩
    go_wp2_with fail
    go_ret
    exact ⟨rfl, (by repeat (first | (with_reducible exact grow_refl _) | (with_reducible assumption) | (with_reducible refine grow_alloc ?_ _) | (with_reducible refine grow_set ?_ (by first | exact Nat.le_refl _ | (simp; done) | (simp; omega) | omega) _) | (with_reducible refine grow_drewN ?_ _) | (with_reducible refine grow_drew ?_) | (with_reducible refine grow_step ?_ (by assumption)) | (with_reducible refine grow_base ?_ (by assumption))))⟩
  rw [if_neg h0] at hi
  have g0 : ((k : Int) == 0) = false := by simp; omega
  by_cases h1 : 8 < k
  · rw [if_pos h1] at hi
    subst hi
    have g1 : (k : Int) > 8 := by omega
    go_wp2_with fail
    refine (error_any 4 4 _ (HG.out.below (by repeat (first | (with_reducible exact grow_refl _) | (with_reducible assumption) | (with_reducible refine grow_alloc ?_ _) | (with_reducible refine grow_set ?_ (by first | exact Nat.le_refl _ | (simp; done) | (simp; omega) | omega) _) | (with_reducible refine grow_drewN ?_ _) | (with_reducible refine grow_drew ?_) | (with_reducible refine grow_step ?_ (by assumption)) | (with_reducible refine grow_base ?_ (by assumption))))) (i64_small (by decide) (by decide))).mono ?_
    rintro e w2 ⟨rfl, hb2⟩
    go_wp2_with fail
    go_ret
    exact ⟨rfl, (by repeat (first | (with_reducible exact grow_refl _) | (with_reducible assumption) | (with_reducible refine grow_alloc ?_ _) | (with_reducible refine grow_set ?_ (by first | exact Nat.le_refl _ | (simp; done) | (simp; omega) | omega) _) | (with_reducible refine grow_drewN ?_ _) | (with_reducible refine grow_drew ?_) | (with_reducible refine grow_step ?_ (by assumption)) | (with_reducible refine grow_base ?_ (by assumption))))⟩
  rw [if_neg h1] at hi
  have g1 : ¬ ((k : Int) > 8) := by omega
  by_cases h2 : v < 1
  · rw [if_pos (Or.inl h2)] at hi
    subst hi
    go_wp2_with fail
    go_ret
    exact ⟨rfl, (by repeat (first | (with_reducible exact grow_refl _) | (with_reducible assumption) | (with_reducible refine grow_alloc ?_ _) | (with_reducible refine grow_set ?_ (by first | exact Nat.le_refl _ | (simp; done) | (simp; omega) | omega) _) | (with_reducible refine grow_drewN ?_ _) | (with_reducible refine grow_drew ?_) | (with_reducible refine grow_step ?_ (by assumption)) | (with_reducible refine grow_base ?_ (by assumption))))⟩
  by_cases h3 : 1000 < v
  · rw [if_pos (Or.inr h3)] at hi
    subst hi
    go_wp2_with fail
    go_ret
    exact ⟨bool_eq (by simp; try omega), (by repeat (first | (with_reducible exact grow_refl _) | (with_reducible assumption) | (with_reducible refine grow_alloc ?_ _) | (with_reducible refine grow_set ?_ (by first | exact Nat.le_refl _ | (simp; done) | (simp; omega) | omega) _) | (with_reducible refine grow_drewN ?_ _) | (with_reducible refine grow_drew ?_) | (with_reducible refine grow_step ?_ (by assumption)) | (with_reducible refine grow_base ?_ (by assumption))))⟩
  rw [if_neg (by omega)] at hi
  subst hi
  go_wp2_with fail
  go_ret
  exact ⟨rfl, (by repeat (first | (with_reducible exact grow_refl _) | (with_reducible assumption) | (with_reducible refine grow_alloc ?_ _) | (with_reducible refine grow_set ?_ (by first | exact Nat.le_refl _ | (simp; done) | (simp; omega) | omega) _) | (with_reducible refine grow_drewN ?_ _) | (with_reducible refine grow_drew ?_) | (with_reducible refine grow_step ?_ (by assumption)) | (with_reducible refine grow_base ?_ (by assumption))))⟩

set_option maxRecDepth 100000 in
theorem imageLong_walks (H : Type) (enc : TypeId × Value → H) : WalksD enc Tryd.prog Door 3 Tryd.f3 := by
  intro W base args ds p hval hA hlt hsz hsh hdoor
  have hsz0 := hsz
  rw [Tryd.params3] at hA hval
  obtain ⟨v0, vs0, d0, ds0, p0, q0, hargs, rfl, rfl, h0, r0⟩ := trodAll_cons hA
  obtain ⟨v1, vs1, d1, ds1, p1, q1, rfl, rfl, rfl, h1, r1⟩ := trodAll_cons r0
  obtain ⟨rfl, rfl, rfl⟩ := trodAll_nil r1
  obtain rfl : args = #[v0, v1] := by cases args; simp_all
  obtain ⟨a0, rfl, w0⟩ := op_int (hval 0 3 v0 rfl rfl) h0
  obtain ⟨a1, rfl, w1⟩ := op_int (hval 1 3 v1 rfl rfl) h1
  exact imageLong_walk W a0 a1 w0 w1 hdoor

set_option maxRecDepth 100000 in
theorem imageLong_lifted (os : Os) (started : os.Started) (H : Type) (enc : TypeId × Value → H) :
    ReturnsInHanded {} Tryd.checked os 3 .any (fun w args => (Rows.imageLongSpec.pre enc Tryd.checked.prog Tryd.f3 [] false w args ∧ laidMetH Tryd.checked.prog LaidD w) ∧ sizedMet enc Tryd.checked.prog Tryd.f3 (OpenSpec.ofChange Rows.imageLongSpec) false w args) (Rows.imageLongSpec.post enc Tryd.checked.prog Tryd.f3 false true false false) :=
  returns_of_walkD (C := Tryd.checked) (s := Rows.imageLongSpec) (L := LaidD) (D := Door) own started (by kernel_rfl) Tryd.func3
    (ChangeSpec.witness_at (enc := enc) (C := Tryd.checked) (os := os) (X := fun w _ => laidMetH Tryd.prog LaidD w) false (laidWorld os) #[.int .i64 0, .int .i64 0] 8 rfl (by kernel_rfl) (by kernel_rfl) (by kernel_rfl) (by kernel_rfl) (by kernel_rfl) (laidWorld_met os _))
    (fun W h => door_of_laid h) laidOut (by kernel_rfl) rfl Tryd.underlying4 rfl (fun ds h => by match ds, h with | [_, _], _ => rfl) (imageLong_walks H enc)

theorem imageLong_bare : Rows.ImageLongSaid :=
  OpenClaim.holds_of_wide 3 Tryd.f3 rfl rfl rfl rfl rfl rfl rfl ⟨rfl, rfl, rfl, rfl, rfl⟩ rfl rfl rfl rfl rfl (by kernel_rfl) Tryd.func3 (by kernel_rfl)
    (of_decide_eq_true (by kernel_rfl)) (by unfold Func.isWrapper; rw [if_neg (of_decide_eq_false (by kernel_rfl))]; exact ⟨rfl, rfl⟩)
    (fun os started H enc _ => imageLong_lifted os started H enc)

theorem imageLong_holds : Rows.ImageLongCardSaid :=
  Claim7.holds_tied_plain_at .later [] [.handle] true Rows.imageLongCard.stood.harness true
    imageLong_bare (fun _ h => by cases h) (by kernel_rfl) (fun _ h => by cases h) imageLong_row_tie rfl ⟨rfl, rfl⟩ (by kernel_rfl) rfl
    (fun f fn hf hfn => by
      obtain rfl : f = 3 := Option.some.inj ((show Tryd.prog.funcNamed "bootstair/stairlaw4.ImageLong" = some 3 by kernel_rfl).symm.trans hf) |>.symm
      obtain rfl : fn = Tryd.f3 := (Option.some.inj (Tryd.func3.symm.trans hfn)).symm
      exact ⟨by kernel_rfl, fun j t ht => by
        have hm : t ∈ Tryd.f3.params.toList := by simpa using Array.mem_of_getElem? ht
        have hall : (Tryd.f3.params.toList.all fun u => !Tryd.prog.wantsStandIn u) = true := by kernel_rfl
        exact (show Tryd.prog.wantsStandIn t = false by simpa using List.all_eq_true.1 hall t hm)⟩)
    (by kernel_rfl)

end Go.Proofs.YtnocigkfhdnhfaaDoor
