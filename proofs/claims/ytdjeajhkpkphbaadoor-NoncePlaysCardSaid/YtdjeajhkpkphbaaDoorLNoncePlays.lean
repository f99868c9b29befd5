/- NoncePlays: any that are issued, and used: the program's are the reference's. The package variable errors.errorType holds what the program's text lays. -/
import Derived.Test.YtdjeajhkpkphbaaDoorRows
import Derived.Test.YtdjeajhkpkphbaaDoorOpen
import Derived.Test.YtdjeajhkpkphbaaDoorRefB
import Derived.Test.YtdjeajhkpkphbaaDoorFoot
import Derived.Test.YtdjeajhkpkphbaaDoorNon2
import Derived.Test.YtdjeajhkpkphbaaDoorNon3
import Derived.Test.YtdjeajhkpkphbaaDoorNon4
import Derived.Test.YtdjeajhkpkphbaaDoorTold
import Derived.Test.YtdjeajhkpkphbaaDoorBds
import Derived.Test.YtdjeajhkpkphbaaDoorLiftD
import Derived.WalkKit
import Derived.Lib.Hide
import Derived.Deep.QuietTactic
import Derived.BigQuiet
namespace Go.Proofs.YtdjeajhkpkphbaaDoor
open Go.ChangeShapes Go.WideShapes Go.ChangeAt Go.RowKit
set_option linter.unusedVariables false
set_option maxRecDepth 100000

/-- Two that are apart, and alike. -/
def Twin (B : Nat) (w : World) (gn gm : Nat) (la : Int) (ma : Nat) (xs : List Int) : Prop :=
  ∃ An cn bn Am cm bm, NonceIs w 109 gn bn la ma An cn xs ∧ NonceIs w 71 gm bm la ma Am cm xs ∧ gn ≠ gm ∧ bn ≠ gm ∧ gn ≠ bm ∧ bn ≠ bm ∧ B ≤ gn ∧ B ≤ gm ∧ B ≤ bn ∧ B ≤ bm

theorem NonceIs.drewN {w : World} {T : TypeId} {g b : Nat} {la : Int} {ma : Nat} {A : Option Addr} {c : Nat} {xs : List Int} (h : NonceIs w T g b la ma A c xs) (n : Nat) : NonceIs (w.drewN n) T g b la ma A c xs := ⟨h.box, h.own, h.at_, h.lt⟩
theorem Twin.drewN {B : Nat} {w : World} {gn gm : Nat} {la : Int} {ma : Nat} {xs : List Int} (h : Twin B w gn gm la ma xs) (n : Nat) : Twin B (w.drewN n) gn gm la ma xs := by
  obtain ⟨An, cn, bn, Am, cm, bm, hN, hM, r⟩ := h
  exact ⟨An, cn, bn, Am, cm, bm, hN.drewN n, hM.drewN n, r⟩
theorem hasI_at (xs : List Int) (k : Nat) (h : k < xs.length) : hasI xs (xs.getD k 0) = true := by
  unfold hasI
  rw [List.any_eq_true]
  refine ⟨xs.getD k 0, ?_, by simp⟩
  rw [List.getD_eq_getElem?_getD, List.getElem?_eq_getElem h]; exact List.getElem_mem h
theorem erase_len (xs : List Int) (x : Int) (h : hasI xs x = true) : (xs.erase x).length ≤ xs.length := by
  exact List.length_erase_le
theorem pairM_okk (a : Int) (k : Nat) : okM (pairM a k) = true := pairM_ok _ _

set_option maxHeartbeats 8000000 in
theorem noncePlays_walk (w : World) (s : Int) (A : Option Addr) (l : List Int) (c : Nat) (i0 : I64 s) (hA : IntsAt w A l) (hi : ∀ x ∈ l, I64 x) (hl : l.length * 8 ≤ 140737488351232) (hg : Door w) :
    Calls Tryd.prog 9 #[.int .i64 s, .slice A l.length c] w fun e w' => e = .returned (.bool true) ∧ Below w.heap.size w w' := by
  have en := fun k w => err_neq k w
  have ee := fun k w => err_eql k w
  have gn_ := fun o k w => err_guard_neq o k w
  have ge_ := fun o k w => err_guard_eql o k w
  have HA := Lib.hid hA
  have HG := Lib.hid hg
  clear hA hg hi
  cases hs : okM s
  · go_enter Tryd.func9, Tryd.ntmps9
    go_wp2_with (first | (go_at_call 18; refine (rIs_any _ _).mono ?_; rintro e w' ⟨rfl, rfl⟩; rw [hs]) | (go_at_call 31; refine (nNew_no s _ hs).mono ?_; rintro e w1 ⟨rfl, rfl⟩))
    refine (error_any 1 1 _ HG.out (i64_small (by decide) (by decide))).mono ?_
    rintro e w2 ⟨rfl, hb2⟩
    go_wp2_with fail
    go_ret
    exact ⟨rfl, (by repeat (first | (with_reducible exact grow_refl _) | (with_reducible assumption) | (with_reducible refine grow_alloc ?_ _) | (with_reducible refine grow_set ?_ (by first | exact Nat.le_refl _ | (simp; done) | (simp; omega) | omega) _) | (with_reducible refine grow_drewN ?_ _) | (with_reducible refine grow_drew ?_) | (with_reducible refine grow_step ?_ (by assumption)) | (with_reducible refine grow_base ?_ (by assumption))))⟩
  · have HN0 := Lib.hid (Box.new w 109 #[.int .i64 s, .int .i64 0, .slice none 0 0])
    obtain ⟨gn, hgn⟩ : ∃ gn, gn = w.heap.size := ⟨_, rfl⟩
    have HGN := Lib.hid hgn
    go_enter Tryd.func9, Tryd.ntmps9
    go_wp2_with (first | (go_at_call 18; refine (rIs_any _ _).mono ?_; rintro e w' ⟨rfl, rfl⟩; rw [hs]) | (go_at_call 31; refine (nNew_yes s _ hs).mono ?_; rintro e w1 ⟨rfl, rfl⟩))
    refine (error_any 0 0 _ (HG.out.below (by exact grow_alloc (grow_refl _) _)) (i64_small (by decide) (by decide))).mono ?_
    rintro e w2 ⟨rfl, hb2⟩
    have hbw : Below w.heap.size w w2 := grow_step (grow_alloc (grow_refl _) _) hb2
    have HN := HN0.out.below hb2
    have hlt := HN.lt
    have HT : Hid (Twin w.heap.size (w2.alloc (.cells #[.int .i64 s, .int .i64 0, .slice none 0 0] 71)) w.heap.size w2.heap.size s 0 []) :=
      Lib.hid ⟨none, 0, w.heap.size, none, 0, w2.heap.size, NonceIs.new (HN.alloc_ _), NonceIs.new (Box.new _ _ _), by omega, by omega, by omega, by omega, by omega, by omega, by omega, by omega⟩
    obtain ⟨gm, hgm⟩ : ∃ gm, w2.heap.size = gm := ⟨_, rfl⟩
    rw [hgm] at HT
    have HGM := Lib.hid hgm
    clear hlt HN
    go_wp2_with fail
    clear hgm
    go_loopw [9, 11, 12, 13, 14, 15, 16] (fun t i _ _ _ _ _ wr => ∃ (k : Nat) (la : Int) (ma : Nat) (xs : List Int), k ≤ l.length ∧ t = .bool true ∧ i = .int .i64 k ∧ Hid (Twin w.heap.size wr w.heap.size gm la ma xs) ∧ Hid (okM la = true) ∧ Hid (xs.length ≤ 8 ∧ ma ≤ 30) ∧ Below w.heap.size w wr) (fun _ i _ _ _ _ _ _ => l.length - (intOf i).toNat)
    case atStart => exact ⟨0, s, 0, [], by omega, rfl, rfl, HT, Lib.hid hs, Lib.hid ⟨by simp, by omega⟩, grow_alloc hbw _⟩
    case round =>
      obtain ⟨k, la, ma, xs, hk, rfl, rfl, HT, HLA, HX, hbr⟩ := hrel
      by_cases hlt : k < l.length
      · have g0 : (k : Int) < (l.length : Int) := by omega
        by_cases h80 : k < 80
        · have g1 : (k : Int) < 80 := by omega
          obtain ⟨y, hy⟩ : ∃ y, l.getD k 0 = y := ⟨_, rfl⟩
          obtain ⟨b0, off, rfl, _, hc⟩ := (HA.out.below hbr) k hlt
          rw [hy] at hc
          clear hy
          obtain ⟨An, cn, bn, Am, cm, bm, hN, hM, d1, d2, d3, d4, p1, p2, p3, p4⟩ := HT.out
          have q1 := hN.box.lt
          have q2 := hN.lt
          have q3 := hM.box.lt
          have q4 := hM.lt
          have HN := Lib.hid hN
          have HM := Lib.hid hM
          clear hN hM
          by_cases hy0 : y < 0
          · by_cases hF : xs.length = 8 ∨ xs.length < 8 ∧ ma = 30
            · have HF := Lib.hid hF
              clear hF
              go_wp2_with fail
              refine (mIssue_full gm bm la ma Am cm xs _ HM.out HF.out).mono ?_
              rintro e w3 ⟨rfl, rfl⟩
              go_wp2_with fail
              refine (nIssue_full _ bn la ma An cn xs _ HN.out HF.out).mono ?_
              rintro e w3 ⟨rfl, rfl⟩
              go_wp2_with fail
              refine (error_any 4 4 _ (HG.out.below hbr) (i64_small (by decide) (by decide))).mono ?_
              rintro e w4 ⟨rfl, hb4⟩
              have HN4 := Lib.hid (HN.out.below hb4)
              have HM4 := Lib.hid (HM.out.below hb4)
              have cM := HM4.out.box.cell
              have lM := HM4.out.box.lt
              have hb5 : Below w.heap.size w w4 := grow_step hbr hb4
              have HT4 : Hid (Twin w.heap.size w4 w.heap.size gm la ma xs) := Lib.hid ⟨An, cn, bn, Am, cm, bm, HN4.out, HM4.out, d1, d2, d3, d4, p1, p2, p3, p4⟩
              go_wp2_with fail
              go_quiet ((go_at_call 33; exact Calls.quiet_of_same ((nOpen_any _ _ _ _ _ _ _ _ (HN4.out.drewN _)).mono (fun _ _ h => ⟨h.1, h.2.symm⟩))))
              go_wp2_with fail
              go_roundw
              case rel => exact ⟨k + 1, la, ma, xs, by omega, rfl, by go_num, Lib.hid (HT4.out.drewN _), HLA, HX, grow_drewN hb5 _⟩
              case measure => simp [intOf]; omega
            · have f1 : xs.length < 8 := by have := HX.out; omega
              have f2 : ma < 30 := by have := HX.out; omega
              clear hF
              go_wp2_with fail
              refine (mIssue_more gm bm la ma Am cm xs _ HM.out HLA.out f2 f1).mono ?_
              rintro e w3 ⟨Am', cm', bm', rfl, hM3, ebm, hk3⟩
              have hN3 := HN.out.but hk3 (by intro h; rcases h with h | h <;> omega) (by intro h; rcases h with h | h <;> omega)
              have HN3 := Lib.hid hN3
              have HM3 := Lib.hid hM3
              have hs3 := hk3.size
              have hbw3 : Below w.heap.size w w3 := hbr.trans (hk3.below (by omega) (by intro j h; rcases h with h | h <;> omega))
              have t1 := hM3.box.lt
              have t2 := hM3.lt
              clear hN3 hM3 hk3
              have hpm : okM (pairM la ma) = true := pairM_okk la ma
              go_wp2_with fail
              refine (nIssue_more _ bn la ma An cn xs _ HN3.out HLA.out f2 f1).mono ?_
              rintro e w4 ⟨An', cn', bn', rfl, hN4, ebn, hk4⟩
              have hM4 := HM3.out.but hk4 (by intro h; rcases h with h | h <;> omega) (by intro h; rcases h with h | h <;> omega)
              have HN4 := Lib.hid hN4
              have HM4 := Lib.hid hM4
              have hbw4 : Below w.heap.size w w4 := hbw3.trans (hk4.below (by omega) (by intro j h; rcases h with h | h <;> omega))
              have HD : Hid (w.heap.size ≠ gm ∧ bn' ≠ gm ∧ w.heap.size ≠ bm' ∧ bn' ≠ bm' ∧ w.heap.size ≤ w.heap.size ∧ w.heap.size ≤ gm ∧ w.heap.size ≤ bn' ∧ w.heap.size ≤ bm') := Lib.hid (by omega)
              clear hN4 hM4 hk4 ebm ebn t1 t2 hs3
              obtain ⟨V, hV⟩ : ∃ V, pairM la ma = V := ⟨_, rfl⟩
              rw [hV] at HN4 HM4 hpm ⊢
              clear hV
              have HPM := Lib.hid hpm
              clear hpm
              go_wp2_with fail
              refine (error_any 0 0 _ (HG.out.below hbw4) (i64_small (by decide) (by decide))).mono ?_
              rintro e w5 ⟨rfl, hb5⟩
              have HN5 := Lib.hid (HN4.out.below hb5)
              have HM5 := Lib.hid (HM4.out.below hb5)
              have cM := HM5.out.box.cell
              have lM := HM5.out.box.lt
              have hbw5 : Below w.heap.size w w5 := grow_step hbw4 hb5
              have HT5 : Hid (Twin w.heap.size w5 w.heap.size gm V (ma + 1) (xs ++ [V])) := Lib.hid ⟨An', cn', bn', Am', cm', bm', HN5.out, HM5.out, HD.out⟩
              have HX5 : Hid ((xs ++ [V]).length ≤ 8 ∧ ma + 1 ≤ 30) := Lib.hid (by rw [List.length_append]; simp; omega)
              go_wp2_with fail
              go_quiet ((go_at_call 33; exact Calls.quiet_of_same ((nOpen_any _ _ _ _ _ _ _ _ (HN5.out.drewN _)).mono (fun _ _ h => ⟨h.1, h.2.symm⟩))))
              go_wp2_with fail
              go_roundw
              case rel => exact ⟨k + 1, V, ma + 1, xs ++ [V], by omega, rfl, by go_num, Lib.hid (HT5.out.drewN _), HPM, HX5, grow_drewN hbw5 _⟩
              case measure => simp [intOf]; omega
          · have cM0 := HM.out.box.cell
            have lM0 := HM.out.box.lt
            obtain ⟨j, rfl⟩ := Int.eq_ofNat_of_zero_le (show 0 ≤ y by omega)
            by_cases hin : j < xs.length
            · obtain ⟨gl, cur, eA, _, _, _, _, _⟩ := own_form HM.out.own (by omega)
              obtain ⟨b1, off1, e1, _, hcx⟩ := HM.out.own.ints j hin
              rw [eA] at e1
              injection e1 with e1
              injection e1 with e1 e2
              subst e1; subst e2; subst eA
              have HH := Lib.hid (hasI_at xs j hin)
              obtain ⟨X, hX⟩ : ∃ X, xs.getD j 0 = X := ⟨_, rfl⟩
              rw [hX, Nat.zero_add] at hcx
              rw [hX] at HH
              clear hX
              go_wp2_with fail
              refine (nUse_yes _ bn la ma An cn xs X _ HN.out HH.out (by have := HX.out; omega)).mono ?_
              rintro e w3 ⟨rfl, hN3, hk3⟩
              have hM3 := HM.out.but hk3 (by intro h; rcases h with h | h <;> omega) (by intro h; rcases h with h | h <;> omega)
              have hbw3 : Below w.heap.size w w3 := hbr.trans (hk3.below (by omega) (by intro j h; rcases h with h | h <;> omega))
              have HN3 := Lib.hid hN3
              have HM3 := Lib.hid hM3
              have t1 := hN3.box.lt
              have t2 := hN3.lt
              clear hN3 hM3 hk3
              go_wp2_with fail
              refine (mUse_any gm bm la ma _ cm xs X _ HM3.out (by have := HX.out; omega)).mono ?_
              rintro e w4 (⟨rfl, _, Am', cm', bm', hM4, ebm, hk4⟩ | ⟨rfl, hno, _⟩)
              rotate_left
              · rw [HH.out] at hno; cases hno
              have hN4 := HN3.out.but hk4 (by intro h; rcases h with h | h <;> omega) (by intro h; rcases h with h | h <;> omega)
              have HN4 := Lib.hid hN4
              have HM4 := Lib.hid hM4
              have hbw4 : Below w.heap.size w w4 := hbw3.trans (hk4.below (by omega) (by intro j h; rcases h with h | h <;> omega))
              have HD : Hid (w.heap.size ≠ gm ∧ bn ≠ gm ∧ w.heap.size ≠ bm' ∧ bn ≠ bm' ∧ w.heap.size ≤ w.heap.size ∧ w.heap.size ≤ gm ∧ w.heap.size ≤ bn ∧ w.heap.size ≤ bm') := Lib.hid (by omega)
              clear hN4 hM4 hk4 ebm t1 t2
              go_wp2_with fail
              refine (error_any 0 0 _ (HG.out.below hbw4) (i64_small (by decide) (by decide))).mono ?_
              rintro e w5 ⟨rfl, hb5⟩
              have HN5 := Lib.hid (HN4.out.below hb5)
              have HM5 := Lib.hid (HM4.out.below hb5)
              have cM := HM5.out.box.cell
              have lM := HM5.out.box.lt
              have hbw5 : Below w.heap.size w w5 := grow_step hbw4 hb5
              have HT5 : Hid (Twin w.heap.size w5 w.heap.size gm la ma (xs.erase X)) := Lib.hid ⟨An, cn, bn, Am', cm', bm', HN5.out, HM5.out, HD.out⟩
              have HX5 : Hid ((xs.erase X).length ≤ 8 ∧ ma ≤ 30) := Lib.hid (by have := erase_len xs X HH.out; have := HX.out; omega)
              go_wp2_with fail
              go_quiet ((go_at_call 33; exact Calls.quiet_of_same ((nOpen_any _ _ _ _ _ _ _ _ (HN5.out.drewN _)).mono (fun _ _ h => ⟨h.1, h.2.symm⟩))))
              go_wp2_with fail
              go_roundw
              case rel => exact ⟨k + 1, la, ma, xs.erase X, by omega, rfl, by go_num, Lib.hid (HT5.out.drewN _), HLA, HX5, grow_drewN hbw5 _⟩
              case measure => simp [intOf]; omega
            · cases hha : hasI xs j
              · have HNO := Lib.hid hha
                clear hha
                go_wp2_with fail
                refine (nUse_no _ bn la ma An cn xs (j : Int) _ HN.out HNO.out (by have := HX.out; omega)).mono ?_
                rintro e w3 ⟨rfl, rfl⟩
                go_wp2_with fail
                refine (mUse_any gm bm la ma _ cm xs (j : Int) _ HM.out (by have := HX.out; omega)).mono ?_
                rintro e w4 (⟨rfl, hno, _⟩ | ⟨rfl, _, rfl⟩)
                · rw [HNO.out] at hno; cases hno
                go_wp2_with fail
                refine (error_any 5 5 _ (HG.out.below hbr) (i64_small (by decide) (by decide))).mono ?_
                rintro e w5 ⟨rfl, hb5⟩
                have HN5 := Lib.hid (HN.out.below hb5)
                have HM5 := Lib.hid (HM.out.below hb5)
                have cM := HM5.out.box.cell
                have lM := HM5.out.box.lt
                have hbw5 : Below w.heap.size w w5 := grow_step hbr hb5
                have HT5 : Hid (Twin w.heap.size w5 w.heap.size gm la ma xs) := Lib.hid ⟨An, cn, bn, Am, cm, bm, HN5.out, HM5.out, d1, d2, d3, d4, p1, p2, p3, p4⟩
                go_wp2_with fail
                go_quiet ((go_at_call 33; exact Calls.quiet_of_same ((nOpen_any _ _ _ _ _ _ _ _ (HN5.out.drewN _)).mono (fun _ _ h => ⟨h.1, h.2.symm⟩))))
                go_wp2_with fail
                go_roundw
                case rel => exact ⟨k + 1, la, ma, xs, by omega, rfl, by go_num, Lib.hid (HT5.out.drewN _), HLA, HX, grow_drewN hbw5 _⟩
                case measure => simp [intOf]; omega
              · have HH := Lib.hid hha
                clear hha
                go_wp2_with fail
                refine (nUse_yes _ bn la ma An cn xs (j : Int) _ HN.out HH.out (by have := HX.out; omega)).mono ?_
                rintro e w3 ⟨rfl, hN3, hk3⟩
                have hM3 := HM.out.but hk3 (by intro h; rcases h with h | h <;> omega) (by intro h; rcases h with h | h <;> omega)
                have hbw3 : Below w.heap.size w w3 := hbr.trans (hk3.below (by omega) (by intro j h; rcases h with h | h <;> omega))
                have HN3 := Lib.hid hN3
                have HM3 := Lib.hid hM3
                have t1 := hN3.box.lt
                have t2 := hN3.lt
                clear hN3 hM3 hk3
                go_wp2_with fail
                refine (mUse_any gm bm la ma _ cm xs (j : Int) _ HM3.out (by have := HX.out; omega)).mono ?_
                rintro e w4 (⟨rfl, _, Am', cm', bm', hM4, ebm, hk4⟩ | ⟨rfl, hno, _⟩)
                rotate_left
                · rw [HH.out] at hno; cases hno
                have hN4 := HN3.out.but hk4 (by intro h; rcases h with h | h <;> omega) (by intro h; rcases h with h | h <;> omega)
                have HN4 := Lib.hid hN4
                have HM4 := Lib.hid hM4
                have hbw4 : Below w.heap.size w w4 := hbw3.trans (hk4.below (by omega) (by intro j h; rcases h with h | h <;> omega))
                have HD : Hid (w.heap.size ≠ gm ∧ bn ≠ gm ∧ w.heap.size ≠ bm' ∧ bn ≠ bm' ∧ w.heap.size ≤ w.heap.size ∧ w.heap.size ≤ gm ∧ w.heap.size ≤ bn ∧ w.heap.size ≤ bm') := Lib.hid (by omega)
                clear hN4 hM4 hk4 ebm t1 t2
                go_wp2_with fail
                refine (error_any 0 0 _ (HG.out.below hbw4) (i64_small (by decide) (by decide))).mono ?_
                rintro e w5 ⟨rfl, hb5⟩
                have HN5 := Lib.hid (HN4.out.below hb5)
                have HM5 := Lib.hid (HM4.out.below hb5)
                have cM := HM5.out.box.cell
                have lM := HM5.out.box.lt
                have hbw5 : Below w.heap.size w w5 := grow_step hbw4 hb5
                have HT5 : Hid (Twin w.heap.size w5 w.heap.size gm la ma (xs.erase (j : Int))) := Lib.hid ⟨An, cn, bn, Am', cm', bm', HN5.out, HM5.out, HD.out⟩
                have HX5 : Hid ((xs.erase (j : Int)).length ≤ 8 ∧ ma ≤ 30) := Lib.hid (by have := erase_len xs (j : Int) HH.out; have := HX.out; omega)
                go_wp2_with fail
                go_quiet ((go_at_call 33; exact Calls.quiet_of_same ((nOpen_any _ _ _ _ _ _ _ _ (HN5.out.drewN _)).mono (fun _ _ h => ⟨h.1, h.2.symm⟩))))
                go_wp2_with fail
                go_roundw
                case rel => exact ⟨k + 1, la, ma, xs.erase (j : Int), by omega, rfl, by go_num, Lib.hid (HT5.out.drewN _), HLA, HX5, grow_drewN hbw5 _⟩
                case measure => simp [intOf]; omega
        · go_wp2_with fail
          go_ret
          exact ⟨rfl, hbr⟩
      · go_wp2_with fail
        go_ret
        exact ⟨rfl, hbr⟩

set_option maxRecDepth 100000 in
theorem noncePlays_walks (H : Type) (enc : TypeId × Value → H) : WalksD enc Tryd.prog Door 9 Tryd.f9 := by
  intro W base args ds p hval hA hlt hsz hsh hdoor
  have hsz0 := hsz
  rw [Tryd.params9] at hA hval
  obtain ⟨v0, vs0, d0, ds0, p0, q0, hargs, rfl, rfl, h0, r0⟩ := trodAll_cons hA
  obtain ⟨v1, vs1, d1, ds1, p1, q1, rfl, rfl, rfl, h1, r1⟩ := trodAll_cons r0
  obtain ⟨rfl, rfl, rfl⟩ := trodAll_nil r1
  obtain rfl : args = #[v0, v1] := by cases args; simp_all
  obtain ⟨a0, rfl, w0⟩ := op_int (hval 0 3 v0 rfl rfl) h0
  obtain ⟨A1, a1, c1, rfl, w1, i1, z1⟩ := op_ints (hval 1 47 v1 rfl rfl) h1 (fun x hx => hlt x (by simp [hx])) (w_each hsz 1 47 _ (by rw [Tryd.params9]; rfl) rfl)
  exact noncePlays_walk W a0 A1 a1 c1 w0 w1 i1 z1 hdoor

set_option maxRecDepth 100000 in
theorem noncePlays_lifted (os : Os) (started : os.Started) (H : Type) (enc : TypeId × Value → H) :
    ReturnsInHanded {} Tryd.checked os 9 .any (fun w args => (Rows.noncePlaysSpec.pre enc Tryd.checked.prog Tryd.f9 [] false w args ∧ laidMetH Tryd.checked.prog LaidD w) ∧ sizedMet enc Tryd.checked.prog Tryd.f9 (OpenSpec.ofChange Rows.noncePlaysSpec) false w args) (Rows.noncePlaysSpec.post enc Tryd.checked.prog Tryd.f9 false true false false) :=
  returns_of_walkD (C := Tryd.checked) (s := Rows.noncePlaysSpec) (L := LaidD) (D := Door) own started (by kernel_rfl) Tryd.func9
    (ChangeSpec.witness_at (enc := enc) (C := Tryd.checked) (os := os) (X := fun w _ => laidMetH Tryd.prog LaidD w) false (laidWorld os) #[.int .i64 0, .slice none 0 0] 8 rfl (by kernel_rfl) (by kernel_rfl) (by kernel_rfl) (by kernel_rfl) (by kernel_rfl) (laidWorld_met os _))
    (fun W h => door_of_laid h) laidOut (by kernel_rfl) rfl Tryd.underlying4 rfl (fun ds h => by match ds, h with | [_, _], _ => rfl) (noncePlays_walks H enc)

theorem noncePlays_bare : Rows.NoncePlaysSaid :=
  OpenClaim.holds_of_wide 9 Tryd.f9 rfl rfl rfl rfl rfl rfl rfl ⟨rfl, rfl, rfl, rfl, rfl⟩ rfl rfl rfl rfl rfl (by kernel_rfl) Tryd.func9 (by kernel_rfl)
    (of_decide_eq_true (by kernel_rfl)) (by unfold Func.isWrapper; rw [if_neg (of_decide_eq_false (by kernel_rfl))]; exact ⟨rfl, rfl⟩)
    (fun os started H enc _ => noncePlays_lifted os started H enc)

theorem noncePlays_holds : Rows.NoncePlaysCardSaid :=
  Claim7.holds_tied_plain_at .later [] [.handle] true Rows.noncePlaysCard.stood.harness true
    noncePlays_bare (fun _ h => by cases h) (by kernel_rfl) (fun _ h => by cases h) noncePlays_row_tie rfl ⟨rfl, rfl⟩ (by kernel_rfl) rfl
    (fun f fn hf hfn => by
      obtain rfl : f = 9 := Option.some.inj ((show Tryd.prog.funcNamed "bootstair/stairlaw1.NoncePlays" = some 9 by kernel_rfl).symm.trans hf) |>.symm
      obtain rfl : fn = Tryd.f9 := (Option.some.inj (Tryd.func9.symm.trans hfn)).symm
      exact ⟨by kernel_rfl, fun j t ht => by
        have hm : t ∈ Tryd.f9.params.toList := by simpa using Array.mem_of_getElem? ht
        have hall : (Tryd.f9.params.toList.all fun u => !Tryd.prog.wantsStandIn u) = true := by kernel_rfl
        exact (show Tryd.prog.wantsStandIn t = false by simpa using List.all_eq_true.1 hall t hm)⟩)
    (by kernel_rfl)

end Go.Proofs.YtdjeajhkpkphbaaDoor
