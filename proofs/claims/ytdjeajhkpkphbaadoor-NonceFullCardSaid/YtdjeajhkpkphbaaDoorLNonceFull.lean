/- NonceFull: eight are open, and no more. The package variable errors.errorType holds what the program's text lays. -/
import Derived.Test.YtdjeajhkpkphbaaDoorRows
import Derived.Test.YtdjeajhkpkphbaaDoorOpen
import Derived.Test.YtdjeajhkpkphbaaDoorNonce
import Derived.Test.YtdjeajhkpkphbaaDoorTold
import Derived.Test.YtdjeajhkpkphbaaDoorBds
import Derived.Test.YtdjeajhkpkphbaaDoorLiftD
import Derived.WalkKit
import Derived.Lib.Hide
namespace Go.Proofs.YtdjeajhkpkphbaaDoor
open Go.ChangeShapes Go.WideShapes Go.ChangeAt Go.RowKit
set_option linter.unusedVariables false
set_option maxRecDepth 100000

set_option maxHeartbeats 2000000 in
theorem nonceFull_walk (w : World) (s m : Int) (i0 : I64 s) (i1 : I64 m) (hg : Door w) :
    Calls Tryd.prog 7 #[.int .i64 s, .int .i64 m] w fun e w' => e = .returned (.bool true) ∧ Below w.heap.size w w' := by
  have en := fun k w => err_neq k w
  have ee := fun k w => err_eql k w
  have gn := fun o k w => err_guard_neq o k w
  have ge := fun o k w => err_guard_eql o k w
  have HG := Lib.hid hg
  clear hg
  cases hs : okM s
  · have hh := okM_no hs
    by_cases c1 : s < 0
    · go_enter Tryd.func7, Tryd.ntmps7
      go_wp2_with (go_at_call 31; refine (nonceNew_no s _ hs).mono ?_; rintro e w1 ⟨rfl, rfl⟩)
      go_ret
      exact ⟨rfl, (by repeat (first | (with_reducible exact grow_refl _) | (with_reducible assumption) | (with_reducible refine grow_alloc ?_ _) | (with_reducible refine grow_set ?_ (by first | exact Nat.le_refl _ | (simp; done) | (simp; omega) | omega) _) | (with_reducible refine grow_drewN ?_ _) | (with_reducible refine grow_drew ?_) | (with_reducible refine grow_step ?_ (by assumption)) | (with_reducible refine grow_base ?_ (by assumption))))⟩
    · have c2 : 1000002 < s := by omega
      clear hh
      go_enter Tryd.func7, Tryd.ntmps7
      go_wp2_with (go_at_call 31; refine (nonceNew_no s _ hs).mono ?_; rintro e w1 ⟨rfl, rfl⟩)
      go_ret
      exact ⟨rfl, (by repeat (first | (with_reducible exact grow_refl _) | (with_reducible assumption) | (with_reducible refine grow_alloc ?_ _) | (with_reducible refine grow_set ?_ (by first | exact Nat.le_refl _ | (simp; done) | (simp; omega) | omega) _) | (with_reducible refine grow_drewN ?_ _) | (with_reducible refine grow_drew ?_) | (with_reducible refine grow_step ?_ (by assumption)) | (with_reducible refine grow_base ?_ (by assumption))))⟩
  · have HN := Lib.hid (Box.new w 109 #[.int .i64 s, .int .i64 0, .slice none 0 0])
    go_enter Tryd.func7, Tryd.ntmps7
    go_wp2_with (go_at_call 31; refine (nonceNew_yes s _ hs).mono ?_; rintro e w1 ⟨rfl, rfl⟩)
    go_loopw [7, 8, 9] (fun i _ _ wr => ∃ (k : Nat) (la : Int) (A : Option Addr) (c : Nat) (xs : List Int), k ≤ 12 ∧ i = .int .i64 k ∧ Hid (xs.length = min k 8) ∧ Hid (okM la = true) ∧ Hid (Box wr w.heap.size 109 #[.int .i64 la, .int .i64 (xs.length : Nat), .slice A xs.length c]) ∧ Hid (OwnI wr (w.heap.size + 1) A c xs) ∧ Below w.heap.size w wr) (fun i _ _ _ => 12 - (intOf i).toNat)
    case atStart => exact ⟨0, s, none, 0, [], by omega, rfl, Lib.hid rfl, Lib.hid hs, HN, Lib.hid (OwnI.start _ _), (by repeat (first | (with_reducible exact grow_refl _) | (with_reducible assumption) | (with_reducible refine grow_alloc ?_ _) | (with_reducible refine grow_set ?_ (by first | exact Nat.le_refl _ | (simp; done) | (simp; omega) | omega) _) | (with_reducible refine grow_drewN ?_ _) | (with_reducible refine grow_drew ?_) | (with_reducible refine grow_step ?_ (by assumption)) | (with_reducible refine grow_base ?_ (by assumption))))⟩
    case round =>
      obtain ⟨k, la, A, c, xs, hk, rfl, HX, HLA, HB, HO, hbr⟩ := hrel
      by_cases h1 : (k : Int) < m
      · by_cases h2 : k < 12
        · have g2 : (k : Int) < 12 := by omega
          by_cases h3 : k < 8
          · have g3 : (k : Int) < 8 := by omega
            have hxk : xs.length = k := by have := HX.out; omega
            have HXK := Lib.hid hxk
            clear hxk
            go_wp2_with fail
            refine (issue_more _ la xs.length A c xs _ HB.out HO.out HLA.out (by have := HXK.out; omega) (by have := HXK.out; omega)).mono ?_
            rintro e w2 ⟨A', c', rfl, hB2, hO2, hb2⟩
            have hpm : okM (pairM la (xs.length : Nat)) = true := by unfold pairM; exact okM_mk (by omega) (by omega)
            obtain ⟨V, hV⟩ : ∃ V, pairM la (xs.length : Nat) = V := ⟨_, rfl⟩
            rw [hV] at hB2 hO2 hpm ⊢
            have HB2 : Hid (Box w2 w.heap.size 109 #[.int .i64 V, .int .i64 ((xs ++ [V]).length : Nat), .slice A' (xs ++ [V]).length c']) := Lib.hid (by
              rw [show (xs ++ [V]).length = xs.length + 1 from by simp]; exact hB2)
            have HO2 := Lib.hid hO2
            have HPM := Lib.hid hpm
            have HX2 : Hid ((xs ++ [V]).length = min (k + 1) 8) := Lib.hid (by rw [List.length_append, HXK.out]; simp; omega)
            have hb3 : Below w.heap.size w w2 := hbr.trans hb2
            clear hV hB2 hO2 hpm hb2
            go_wp2_with fail
            go_roundw
            case rel => exact ⟨k + 1, V, A', c', xs ++ [V], by omega, by go_num, HX2, HPM, HB2, HO2, hb3⟩
            case measure => simp [intOf]; omega
          · have g3 : ¬ ((k : Int) < 8) := by omega
            have hx8 : xs.length = 8 := by have := HX.out; omega
            have HX8 := Lib.hid hx8
            clear hx8
            go_wp2_with fail
            refine (issue_full _ la xs.length A c xs _ HB.out HX8.out).mono ?_
            rintro e w2 ⟨rfl, rfl⟩
            go_wp2_with fail
            refine (error_any 4 4 _ (HG.out.below hbr) (i64_small (by decide) (by decide))).mono ?_
            rintro e w3 ⟨rfl, hb3⟩
            have HB3 := Lib.hid (HB.out.below hb3)
            have HO3 := Lib.hid (HO.out.below hb3)
            have hb4 : Below w.heap.size w w3 := grow_step hbr hb3
            have HX2 : Hid (xs.length = min (k + 1) 8) := Lib.hid (by have := HX8.out; omega)
            go_wp2_with fail
            go_roundw
            case rel => exact ⟨k + 1, la, A, c, xs, by omega, by go_num, HX2, HLA, HB3, HO3, hb4⟩
            case measure => simp [intOf]; omega
        · have g2 : ¬ ((k : Int) < 12) := by omega
          have gx : (xs.length : Int) ≤ 8 := by have := HX.out; omega
          go_wp2_with (go_at_call 33; refine (open_any _ _ _ _ _ _ _ HB.out).mono ?_; rintro e w' ⟨rfl, rfl⟩)
          go_ret
          exact ⟨rfl, hbr⟩
      · have gx : (xs.length : Int) ≤ 8 := by have := HX.out; omega
        go_wp2_with (go_at_call 33; refine (open_any _ _ _ _ _ _ _ HB.out).mono ?_; rintro e w' ⟨rfl, rfl⟩)
        go_ret
        exact ⟨rfl, hbr⟩

set_option maxRecDepth 100000 in
theorem nonceFull_walks (H : Type) (enc : TypeId × Value → H) : WalksD enc Tryd.prog Door 7 Tryd.f7 := by
  intro W base args ds p hval hA hlt hsz hsh hdoor
  have hsz0 := hsz
  rw [Tryd.params7] at hA hval
  obtain ⟨v0, vs0, d0, ds0, p0, q0, hargs, rfl, rfl, h0, r0⟩ := trodAll_cons hA
  obtain ⟨v1, vs1, d1, ds1, p1, q1, rfl, rfl, rfl, h1, r1⟩ := trodAll_cons r0
  obtain ⟨rfl, rfl, rfl⟩ := trodAll_nil r1
  obtain rfl : args = #[v0, v1] := by cases args; simp_all
  obtain ⟨a0, rfl, w0⟩ := op_int (hval 0 3 v0 rfl rfl) h0
  obtain ⟨a1, rfl, w1⟩ := op_int (hval 1 3 v1 rfl rfl) h1
  exact nonceFull_walk W a0 a1 w0 w1 hdoor

set_option maxRecDepth 100000 in
theorem nonceFull_lifted (os : Os) (started : os.Started) (H : Type) (enc : TypeId × Value → H) :
    ReturnsInHanded {} Tryd.checked os 7 .any (fun w args => (Rows.nonceFullSpec.pre enc Tryd.checked.prog Tryd.f7 [] false w args ∧ laidMetH Tryd.checked.prog LaidD w) ∧ sizedMet enc Tryd.checked.prog Tryd.f7 (OpenSpec.ofChange Rows.nonceFullSpec) false w args) (Rows.nonceFullSpec.post enc Tryd.checked.prog Tryd.f7 false true false false) :=
  returns_of_walkD (C := Tryd.checked) (s := Rows.nonceFullSpec) (L := LaidD) (D := Door) own started (by kernel_rfl) Tryd.func7
    (ChangeSpec.witness_at (enc := enc) (C := Tryd.checked) (os := os) (X := fun w _ => laidMetH Tryd.prog LaidD w) false (laidWorld os) #[.int .i64 0, .int .i64 0] 8 rfl (by kernel_rfl) (by kernel_rfl) (by kernel_rfl) (by kernel_rfl) (by kernel_rfl) (laidWorld_met os _))
    (fun W h => door_of_laid h) laidOut (by kernel_rfl) rfl Tryd.underlying4 rfl (fun ds h => by match ds, h with | [_, _], _ => rfl) (nonceFull_walks H enc)

theorem nonceFull_bare : Rows.NonceFullSaid :=
  OpenClaim.holds_of_wide 7 Tryd.f7 rfl rfl rfl rfl rfl rfl rfl ⟨rfl, rfl, rfl, rfl, rfl⟩ rfl rfl rfl rfl rfl (by kernel_rfl) Tryd.func7 (by kernel_rfl)
    (of_decide_eq_true (by kernel_rfl)) (by unfold Func.isWrapper; rw [if_neg (of_decide_eq_false (by kernel_rfl))]; exact ⟨rfl, rfl⟩)
    (fun os started H enc _ => nonceFull_lifted os started H enc)

theorem nonceFull_holds : Rows.NonceFullCardSaid :=
  Claim7.holds_tied_plain_at .later [] [.handle] true Rows.nonceFullCard.stood.harness true
    nonceFull_bare (fun _ h => by cases h) (by kernel_rfl) (fun _ h => by cases h) nonceFull_row_tie rfl ⟨rfl, rfl⟩ (by kernel_rfl) rfl
    (fun f fn hf hfn => by
      obtain rfl : f = 7 := Option.some.inj ((show Tryd.prog.funcNamed "bootstair/stairlaw4.NonceFull" = some 7 by kernel_rfl).symm.trans hf) |>.symm
      obtain rfl : fn = Tryd.f7 := (Option.some.inj (Tryd.func7.symm.trans hfn)).symm
      exact ⟨by kernel_rfl, fun j t ht => by
        have hm : t ∈ Tryd.f7.params.toList := by simpa using Array.mem_of_getElem? ht
        have hall : (Tryd.f7.params.toList.all fun u => !Tryd.prog.wantsStandIn u) = true := by kernel_rfl
        exact (show Tryd.prog.wantsStandIn t = false by simpa using List.all_eq_true.1 hall t hm)⟩)
    (by kernel_rfl)

end Go.Proofs.YtdjeajhkpkphbaaDoor
