/- CountFull: twelve names, and no more. The package variable errors.errorType holds what the program's text lays. -/
import Derived.Test.YtnocigkfhdnhfaaDoorRows
import Derived.Test.YtnocigkfhdnhfaaDoorOpen
import Derived.Test.YtnocigkfhdnhfaaDoorImg
import Derived.Test.YtnocigkfhdnhfaaDoorCount
import Derived.Test.YtnocigkfhdnhfaaDoorTold
import Derived.Test.YtnocigkfhdnhfaaDoorBds
import Derived.Test.YtnocigkfhdnhfaaDoorLiftD
import Derived.WalkKit
import Derived.WalkSpells
import Derived.Lib.Hide
namespace Go.Proofs.YtnocigkfhdnhfaaDoor
open Go.ChangeShapes Go.WideShapes Go.ChangeAt Go.RowKit
set_option linter.unusedVariables false
set_option maxRecDepth 100000

abbrev twenty : ByteArray := { data := #[97, 98, 99, 100, 101, 102, 103, 104, 105, 106, 107, 108, 109, 110, 111, 112, 113, 114, 115, 116] }
abbrev enn : ByteArray := { data := #[110] }
abbrev zz : ByteArray := { data := #[122, 122] }
def nm (k : Nat) : ByteArray := enn ++ twenty.extract k (k + 1)
theorem nm_ok : ∀ k, k < 20 → okName (nm k) = true := by decide
theorem zz_ok : okName zz = true := by decide
def hN (k : Nat) (t : List UInt8) : Bool := (List.range k).any (fun j => t == (nm j).data.toList)
def vN (k : Nat) (t : List UInt8) : Int := if hN k t then 1 else 0
theorem nm_new : ∀ k, k < 20 → hN (min k 12) (nm k).data.toList = false := by decide
theorem zz_new : ∀ k, k < 13 → hN k zz.data.toList = false := by decide
theorem hN_zero : hN 0 = fun _ => false := rfl
theorem vN_zero : vN 0 = fun _ => 0 := rfl
theorem hN_succ (k : Nat) : (fun t => t == (nm k).data.toList || hN k t) = hN (k + 1) := by
  funext t
  unfold hN
  rw [List.range_succ, List.any_append, Bool.or_comm]
  simp
theorem vN_succ (k : Nat) : (fun t => if t = (nm k).data.toList then 1 else vN k t) = vN (k + 1) := by
  funext t
  unfold vN
  rw [← hN_succ k]
  by_cases h : t = (nm k).data.toList
  · simp [h]
  · simp [h]

set_option maxHeartbeats 2000000 in
theorem countFull_walk (w : World) (n : Int) (i0 : I64 n) (hg : Door w) :
    Calls Tryd.prog 4 #[.int .i64 n] w fun e w' => e = .returned (.bool true) ∧ Below w.heap.size w w' := by
  have en := fun k w => err_neq k w
  have ee := fun k w => err_eql k w
  have gn := fun o k w => err_guard_neq o k w
  have ge := fun o k w => err_guard_eql o k w
  have HG := Lib.hid hg
  clear hg
  go_enter Tryd.func4, Tryd.ntmps4
  go_wp2_with fail
  refine (countNew_any _).mono ?_
  rintro e w1 ⟨g, rfl, hC, hb1⟩
  have HC := Lib.hid hC
  clear hC
  go_wp2_with fail
  go_loopw [4, 5, 6] (fun i _ _ wr => ∃ k : Nat, k ≤ 20 ∧ i = .int .i64 k ∧ Hid (CountIs w.heap.size wr g (min k 12) (hN (min k 12)) (vN (min k 12)) (min k 12)) ∧ Below w.heap.size w wr) (fun i _ _ _ => 20 - (intOf i).toNat)
  case atStart => exact ⟨0, by omega, rfl, Lib.hid HC.out, hb1⟩
  case round =>
    obtain ⟨k, hk, rfl, HK, hbr⟩ := hrel
    clear HC hb1
    by_cases h1 : (k : Int) < n
    · by_cases h2 : k < 20
      · have g2 : (k : Int) < 20 := by omega
        have f1 : ∀ w, (Op.stringOp .add enn (twenty.extract k (k + 1))).run Tryd.prog w = .ok (.string (nm k)) w := fun w => run_string_add_sum _ _ _ (by
          have : (twenty.extract k (k + 1)).size ≤ 20 := by rw [ByteArray.size_extract]; exact Nat.le_trans (Nat.sub_le _ _) (Nat.min_le_right _ _)
          have e : enn.size = 1 := rfl
          omega)
        have HOK := Lib.hid (nm_ok k h2)
        have HNW := Lib.hid (nm_new k h2)
        by_cases h3 : k < 12
        · have g3 : (k : Int) < 12 := by omega
          have HM := Lib.hid (show min k 12 = k by omega)
          have hnw : hN k (nm k).data.toList = false := by have := HNW.out; rw [HM.out] at this; exact this
          have HC0 : Hid (CountIs w.heap.size wr g k (hN k) (vN k) k) := Lib.hid (by have := HK.out; rw [HM.out] at this; exact this)
          have hvn : vN k (nm k).data.toList < 1 := by unfold vN; rw [hnw]; decide
          have HVN := Lib.hid hvn
          have HH := Lib.hid hnw
          clear hnw hvn HK HM HNW
          go_wp2_with fail
          refine (raise_new w.heap.size g k (hN k) (vN k) k (nm k) 1 _ HC0.out HOK.out (by decide) (by decide) HVN.out HH.out h3 (by omega) hbr.size).mono ?_
          rintro e w2 ⟨rfl, hC2, hb2⟩
          rw [hN_succ, vN_succ] at hC2
          have HC2 : Hid (CountIs w.heap.size w2 g (min (k + 1) 12) (hN (min (k + 1) 12)) (vN (min (k + 1) 12)) (min (k + 1) 12)) := Lib.hid (by rw [show min (k + 1) 12 = k + 1 by omega]; exact hC2)
          have hb3 : Below w.heap.size w w2 := hbr.trans hb2
          clear hC2 hb2 HC0 HVN HH
          go_wp2_with fail
          go_roundw
          case rel => exact ⟨k + 1, by omega, by go_num, HC2, hb3⟩
          case measure => simp [intOf]; omega
        · have g3 : ¬ ((k : Int) < 12) := by omega
          have HM := Lib.hid (show min k 12 = 12 by omega)
          have hnw : hN 12 (nm k).data.toList = false := by have := HNW.out; rw [HM.out] at this; exact this
          have HC0 : Hid (CountIs w.heap.size wr g 12 (hN 12) (vN 12) 12) := Lib.hid (by have := HK.out; rw [HM.out] at this; exact this)
          have hvn : vN 12 (nm k).data.toList < 1 := by unfold vN; rw [hnw]; decide
          have HVN := Lib.hid hvn
          have HH := Lib.hid hnw
          clear hnw hvn HK HM HNW
          go_wp2_with fail
          refine (raise_full w.heap.size g 12 (hN 12) (vN 12) (nm k) 1 _ HC0.out HOK.out (by decide) (by decide) HVN.out HH.out).mono ?_
          rintro e w2 ⟨rfl, hb2⟩
          have HC1 := Lib.hid (HC0.out.below hb2)
          have hb3 : Below w.heap.size w w2 := grow_step hbr hb2
          clear HC0 HVN HH
          go_wp2_with fail
          refine (error_any 4 4 _ (HG.out.below hb3) (i64_small (by decide) (by decide))).mono ?_
          rintro e w3 ⟨rfl, hb4⟩
          have HC2 : Hid (CountIs w.heap.size w3 g (min (k + 1) 12) (hN (min (k + 1) 12)) (vN (min (k + 1) 12)) (min (k + 1) 12)) := Lib.hid (by rw [show min (k + 1) 12 = 12 by omega]; exact HC1.out.below hb4)
          have hb5 : Below w.heap.size w w3 := grow_step hb3 hb4
          clear HC1 hb2 hb4
          go_wp2_with fail
          go_roundw
          case rel => exact ⟨k + 1, by omega, by go_num, HC2, hb5⟩
          case measure => simp [intOf]; omega
      · have g2 : ¬ ((k : Int) < 20) := by omega
        have hv : vN (min k 12) zz.data.toList = 0 := by unfold vN; rw [zz_new _ (by omega)]; decide
        have HV := Lib.hid hv
        clear hv
        go_wp2_with fail
        refine (least_any _ _ _ _ _ _ zz _ HK.out zz_ok).mono ?_
        rintro e w2 ⟨rfl, hb2⟩
        rw [HV.out]
        go_wp2_with fail
        go_ret
        exact ⟨rfl, grow_step hbr hb2⟩
    · have hv : vN (min k 12) zz.data.toList = 0 := by unfold vN; rw [zz_new _ (by omega)]; decide
      have HV := Lib.hid hv
      clear hv
      go_wp2_with fail
      refine (least_any _ _ _ _ _ _ zz _ HK.out zz_ok).mono ?_
      rintro e w2 ⟨rfl, hb2⟩
      rw [HV.out]
      go_wp2_with fail
      go_ret
      exact ⟨rfl, grow_step hbr hb2⟩

set_option maxRecDepth 100000 in
theorem countFull_walks (H : Type) (enc : TypeId × Value → H) : WalksD enc Tryd.prog Door 4 Tryd.f4 := by
  intro W base args ds p hval hA hlt hsz hsh hdoor
  have hsz0 := hsz
  rw [Tryd.params4] at hA hval
  obtain ⟨v0, vs0, d0, ds0, p0, q0, hargs, rfl, rfl, h0, r0⟩ := trodAll_cons hA
  obtain ⟨rfl, rfl, rfl⟩ := trodAll_nil r0
  obtain rfl : args = #[v0] := by cases args; simp_all
  obtain ⟨a0, rfl, w0⟩ := op_int (hval 0 3 v0 rfl rfl) h0
  exact countFull_walk W a0 w0 hdoor

set_option maxRecDepth 100000 in
theorem countFull_lifted (os : Os) (started : os.Started) (H : Type) (enc : TypeId × Value → H) :
    ReturnsInHanded {} Tryd.checked os 4 .any (fun w args => (Rows.countFullSpec.pre enc Tryd.checked.prog Tryd.f4 [] false w args ∧ laidMetH Tryd.checked.prog LaidD w) ∧ sizedMet enc Tryd.checked.prog Tryd.f4 (OpenSpec.ofChange Rows.countFullSpec) false w args) (Rows.countFullSpec.post enc Tryd.checked.prog Tryd.f4 false true false false) :=
  returns_of_walkD (C := Tryd.checked) (s := Rows.countFullSpec) (L := LaidD) (D := Door) own started (by kernel_rfl) Tryd.func4
    (ChangeSpec.witness_at (enc := enc) (C := Tryd.checked) (os := os) (X := fun w _ => laidMetH Tryd.prog LaidD w) false (laidWorld os) #[.int .i64 0] 8 rfl (by kernel_rfl) (by kernel_rfl) (by kernel_rfl) (by kernel_rfl) (by kernel_rfl) (laidWorld_met os _))
    (fun W h => door_of_laid h) laidOut (by kernel_rfl) rfl Tryd.underlying4 rfl (fun ds h => by match ds, h with | [_], _ => rfl) (countFull_walks H enc)

theorem countFull_bare : Rows.CountFullSaid :=
  OpenClaim.holds_of_wide 4 Tryd.f4 rfl rfl rfl rfl rfl rfl rfl ⟨rfl, rfl, rfl, rfl, rfl⟩ rfl rfl rfl rfl rfl (by kernel_rfl) Tryd.func4 (by kernel_rfl)
    (of_decide_eq_true (by kernel_rfl)) (by unfold Func.isWrapper; rw [if_neg (of_decide_eq_false (by kernel_rfl))]; exact ⟨rfl, rfl⟩)
    (fun os started H enc _ => countFull_lifted os started H enc)

theorem countFull_holds : Rows.CountFullCardSaid :=
  Claim7.holds_tied_plain_at .later [] [.handle] true Rows.countFullCard.stood.harness true
    countFull_bare (fun _ h => by cases h) (by kernel_rfl) (fun _ h => by cases h) countFull_row_tie rfl ⟨rfl, rfl⟩ (by kernel_rfl) rfl
    (fun f fn hf hfn => by
      obtain rfl : f = 4 := Option.some.inj ((show Tryd.prog.funcNamed "bootstair/stairlaw4.CountFull" = some 4 by kernel_rfl).symm.trans hf) |>.symm
      obtain rfl : fn = Tryd.f4 := (Option.some.inj (Tryd.func4.symm.trans hfn)).symm
      exact ⟨by kernel_rfl, fun j t ht => by
        have hm : t ∈ Tryd.f4.params.toList := by simpa using Array.mem_of_getElem? ht
        have hall : (Tryd.f4.params.toList.all fun u => !Tryd.prog.wantsStandIn u) = true := by kernel_rfl
        exact (show Tryd.prog.wantsStandIn t = false by simpa using List.all_eq_true.1 hall t hm)⟩)
    (by kernel_rfl)

end Go.Proofs.YtnocigkfhdnhfaaDoor
