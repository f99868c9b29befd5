/- TopSealed: what is closed by what a device started opens when it starts the same, and not when it started what comes to another bank. The package variables that the text lays (strconv's tables, errors.errorType) hold what it lays. -/
import Derived.Test.YtdedllfgeekogaaGreatDoorRows
import Derived.Test.YtdedllfgeekogaaGreatDoorOpen
import Derived.Test.YtdedllfgeekogaaGreatDoorOpI
import Derived.Test.YtdedllfgeekogaaGreatDoorOpE
import Derived.Test.YtdedllfgeekogaaGreatDoorOpC
import Derived.Test.YtdedllfgeekogaaGreatDoorNum
import Derived.Test.YtdedllfgeekogaaGreatDoorBase
import Derived.Test.YtdedllfgeekogaaGreatDoorKey
import Derived.Test.YtdedllfgeekogaaGreatDoorCert
import Derived.Test.YtdedllfgeekogaaGreatDoorSeal
import Derived.Test.YtdedllfgeekogaaGreatDoorBds
import Derived.Test.YtdedllfgeekogaaGreatDoorBank
import Derived.Test.YtdedllfgeekogaaGreatDoorEvent
import Derived.Test.YtdedllfgeekogaaGreatDoorEvent2
import Derived.Test.YtdedllfgeekogaaGreatDoorQuote
import Derived.Test.YtdedllfgeekogaaGreatDoorBox
import Derived.Test.YtdedllfgeekogaaGreatDoorBank2
import Derived.Test.YtdedllfgeekogaaGreatDoorDigPlain
import Derived.Test.YtdedllfgeekogaaGreatDoorImg
import Derived.Test.YtdedllfgeekogaaGreatDoorImg2
import Derived.Test.YtdedllfgeekogaaGreatDoorSign
import Derived.Test.YtdedllfgeekogaaGreatDoorSign2
import Derived.Test.YtdedllfgeekogaaGreatDoorFoot
import Derived.Test.YtdedllfgeekogaaGreatDoorSlot
import Derived.Test.YtdedllfgeekogaaGreatDoorSInv
import Derived.Test.YtdedllfgeekogaaGreatDoorCntP
import Derived.Test.YtdedllfgeekogaaGreatDoorCntC
import Derived.Test.YtdedllfgeekogaaGreatDoorUpdP
import Derived.Test.YtdedllfgeekogaaGreatDoorUpd
import Derived.Test.YtdedllfgeekogaaGreatDoorDev
import Derived.Test.YtdedllfgeekogaaGreatDoorDev3
import Derived.Test.YtdedllfgeekogaaGreatDoorTop
import Derived.Test.YtdedllfgeekogaaGreatDoorTop2
import Derived.Test.YtdedllfgeekogaaGreatDoorTold
import Derived.Test.YtdedllfgeekogaaGreatDoorLiftD
import Derived.Test.YtdedllfgeekogaaGreatDoorLiftT
import Derived.WalkKit
import Derived.WalkSpells
import Derived.Lib.Hide
namespace Go.Proofs.YtdedllfgeekogaaGreatDoor
open Go.ChangeShapes Go.WideShapes Go.ChangeAt Go.RowKit
set_option linter.unusedVariables false
set_option linter.unusedSimpArgs false
set_option maxRecDepth 100000

theorem mk_zero {x k n m : Int} {b : List Int} (hx : okSecret x = true) (hk : okSecret k = true) (hb : b.all okM = true) (hm : okMask m = true) (hn : okM n = true) : mkE x k n m b = 0 := by
  have hd : digE b m = 0 := by unfold digE; rw [hb, hm]; rfl
  unfold mkE
  rw [if_pos hn, if_pos hd]
  unfold sgE okSign
  rw [hx, hk, rowM_ok]; rfl
theorem bank_all {P : Int} (h : okM P = true) : ([P, 0, 0, 0, 0, 0, 0, 0] : List Int).all okM = true := by simp [h]; decide
theorem rep_one {M : Int} (h : okM M = true) : repB [(0, M)] = [pairM 0 M, 0, 0, 0, 0, 0, 0, 0] ∧ evE [(0, M)] = 0 := by
  have he : evE [(0, M)] = 0 := by
    unfold evE
    have : ([(0, M)] : List (Int × Int)).all okEv = true := by simp [okEv, h]; decide
    rw [this]; rfl
  refine ⟨?_, he⟩
  unfold repB
  rw [if_pos he]; rfl
def noX3 : Nat → Prop := fun _ => False
theorem Inv.one2 {n : ByteArray} {v : Int} {c : ByteArray} {p a : Int} (hn : n.size ≤ 140737488351232) (hc : c.size ≤ 140737488351232) (iv : I64 v) (ip : I64 p) (ia : I64 a) : Inv (oneS false n v c p a) := Inv.first hn hc iv ip ia

set_option maxHeartbeats 8000000 in
theorem topSealed_walk (w : World) (x : Int) (n : ByteArray) (v : Int) (c : ByteArray) (n' : ByteArray) (v' : Int) (c' : ByteArray) (k sec : Int)
    (ix : I64 x) (iv : I64 v) (hn : n.size ≤ 140737488351232) (hc : c.size ≤ 140737488351232) (iv' : I64 v') (hn' : n'.size ≤ 140737488351232) (hc' : c'.size ≤ 140737488351232) (ik : I64 k) (is : I64 sec) (hg : TabTD w) :
    Calls Tryz.prog 3 #[.int .i64 x, .agg #[.string n, .int .i64 v, .string c], .agg #[.string n', .int .i64 v', .string c'], .int .i64 k, .int .i64 sec] w fun e w' => e = .returned (.bool true) ∧ Below w.heap.size w w' := by
  have en := fun k w => err_neq k w
  have ee := fun k w => err_eql k w
  have gn := fun o k w => err_guard_neq o k w
  have ge := fun o k w => err_guard_eql o k w
  obtain ⟨W, hW⟩ : ∃ W, (w.alloc (.cells #[.string n, .int .i64 v, .string c] 23)).alloc (.cells #[.string n', .int .i64 v', .string c'] 23) = W := ⟨_, rfl⟩
  have hb0 : Below w.heap.size w W := by rw [← hW]; exact grow_alloc (grow_alloc (grow_refl _) _) _
  have HF := Lib.hid (show Box W w.heap.size 23 #[.string n, .int .i64 v, .string c] from by rw [← hW]; exact (Box.new w 23 _).alloc_ _)
  have HN := Lib.hid (show Box W (w.heap.size + 1) 23 #[.string n', .int .i64 v', .string c'] from by
    rw [← hW]
    have h := Box.new (w.alloc (.cells #[.string n, .int .i64 v, .string c] 23)) 23 #[.string n', .int .i64 v', .string c']
    simpa using h)
  have hsz : w.heap.size + 1 < W.heap.size := by rw [← hW]; simp
  have HG := Lib.hid (hg.2.below hb0)
  have HT := Lib.hid (hg.1.below hb0)
  have HB0 := Lib.hid hb0
  clear hg hb0
  go_enter Tryz.func3, Tryz.ntmps3
  go_wp2_with fail
  clear hW
  refine (one_any _ HT.out).mono ?_
  rintro e w1 ⟨rfl, hb1⟩
  cases hx : okSecret x
  · have HP : Hid (pubM x = 0 ∧ pubE x = 1) := Lib.hid ⟨pubM_no hx, pubE_no hx⟩
    go_wp2_with (go_at_call 7; refine (public_any _ _).mono ?_; rintro e w' ⟨rfl, rfl⟩; rw [HP.out.1, HP.out.2])
    go_ret
    exact ⟨rfl, grow_step HB0.out hb1⟩
  obtain ⟨Q, hQ⟩ : ∃ Q, pwI 64 x = Q := ⟨_, rfl⟩
  have HP : Hid (pubM x = Q ∧ pubE x = 0) := Lib.hid ⟨by rw [pubM_yes hx, hQ], pubE_yes hx⟩
  have HQI : Hid (okIn Q = true) := Lib.hid (by rw [← hQ]; exact okIn_own hx)
  have HQQ := Lib.hid hQ
  clear hQ
  have cF := (HF.out.below hb1).cell
  have lF := (HF.out.below hb1).lt
  have cN := (HN.out.below hb1).cell
  have lN := (HN.out.below hb1).lt
  go_wp2_with (go_at_call 7; refine (public_any _ _).mono ?_; rintro e w' ⟨rfl, rfl⟩; rw [HP.out.1, HP.out.2])
  clear cF lF cN lN
  -- the first image signed
  by_cases hgood : imgE n v c = 0 ∧ imgE n' v' c' = 0 ∧ okSecret k = true
  rotate_left
  · -- something is refused
    have ways : (∃ E, E ≠ 0 ∧ ∀ w, TabT w → Calls Tryz.prog 8 #[.int .i64 x, .int .i64 k, .agg #[.string n, .int .i64 v, .string c]] w fun e w' => e = .returned (.tuple #[.agg #[.string ⟨#[]⟩, .int .i64 0, .string ⟨#[]⟩, .int .i64 0, .int .i64 0], errV E]) ∧ Below w.heap.size w w') ∨ (imgE n v c = 0 ∧ okSecret k = true) := by
      by_cases h1 : imgE n v c = 0
      · cases h2 : okSecret k
        · exact Or.inl ⟨1, by decide, fun w ht => signMake_bad x k n v c w (by omega) (by omega) h1 (by rw [h2, Bool.and_false]) ht⟩
        · exact Or.inr ⟨h1, rfl⟩
      · exact Or.inl ⟨_, h1, fun w ht => signMake_no x k n v c w (by omega) (by omega) h1⟩
    have ways2 : ∀ w, TabT w → Calls Tryz.prog 8 #[.int .i64 x, .int .i64 k, .agg #[.string n', .int .i64 v', .string c']] w fun e w' => ∃ (z1 : ByteArray) (z2 : Int) (z3 : ByteArray) (z4 z5 E : Int), e = .returned (.tuple #[.agg #[.string z1, .int .i64 z2, .string z3, .int .i64 z4, .int .i64 z5], errV E]) ∧ ((imgE n v c = 0 ∧ okSecret k = true) → E ≠ 0) ∧ Below w.heap.size w w' := fun w ht => by
      by_cases h1 : imgE n' v' c' = 0
      · cases h2 : okSecret k
        · exact (signMake_bad x k n' v' c' w (by omega) (by omega) h1 (by rw [h2, Bool.and_false]) ht).mono fun e w' h => ⟨_, _, _, _, _, _, h.1, (fun _ => by decide), h.2⟩
        · exact (signMake_yes x k n' v' c' _ w (by omega) (by omega) h1 rfl hx h2 ht).mono fun e w' h => ⟨_, _, _, _, _, _, h.1, (fun hh => absurd ⟨hh.1, h1, h2⟩ hgood), h.2⟩
      · exact (signMake_no x k n' v' c' w (by omega) (by omega) h1).mono fun e w' h => ⟨_, _, _, _, _, _, h.1, (fun _ => h1), h.2⟩
    have HW2 := Lib.hid ways2
    clear ways2 hgood
    rcases ways with ⟨E, hE, hw⟩ | hok
    · have t : (E != 0) = true := by simp [hE]
      refine (hw _ (HT.out.below hb1)).mono ?_
      rintro e w2 ⟨rfl, hb2⟩
      have hb2a := grow_alloc (grow_step hb1 hb2) (.cells #[.string ⟨#[]⟩, .int .i64 0, .string ⟨#[]⟩, .int .i64 0, .int .i64 0] 32)
      have cN := (HN.out.below hb2a).cell
      have lN := (HN.out.below hb2a).lt
      clear hE hw
      go_wp2_with fail
      clear cN lN
      refine (HW2.out _ (HT.out.below hb2a)).mono ?_
      rintro e w3 ⟨z1, z2, z3, z4, z5, E2, rfl, _, hb3⟩
      go_wp2_with fail
      go_ret
      exact ⟨rfl, grow_step HB0.out (grow_alloc (grow_step hb2a hb3) _)⟩
    · have HOK := Lib.hid hok
      refine (signMake_yes x k n v c _ _ (by omega) (by omega) hok.1 rfl hx hok.2 (HT.out.below hb1)).mono ?_
      rintro e w2 ⟨rfl, hb2⟩
      obtain ⟨S1, hS1⟩ : ∃ S, pwI 64 k = S := ⟨_, rfl⟩
      obtain ⟨S2, hS2⟩ : ∃ S, sealA x k (imgM n v c) = S := ⟨_, rfl⟩
      rw [hS1, hS2]
      have hb2a := grow_alloc (grow_step hb1 hb2) (.cells #[.string n, .int .i64 v, .string c, .int .i64 S1, .int .i64 S2] 32)
      have cN := (HN.out.below hb2a).cell
      have lN := (HN.out.below hb2a).lt
      clear hok hS1 hS2
      go_wp2_with fail
      clear cN lN
      refine (HW2.out _ (HT.out.below hb2a)).mono ?_
      rintro e w3 ⟨z1, z2, z3, z4, z5, E2, rfl, hE2, hb3⟩
      have t : (E2 != 0) = true := by have := hE2 HOK.out; simp [this]
      clear hE2
      go_wp2_with fail
      go_ret
      exact ⟨rfl, grow_step HB0.out (grow_alloc (grow_step hb2a hb3) _)⟩
  obtain ⟨hi, hi', hk⟩ := hgood
  obtain ⟨M1, hM1⟩ : ∃ M, imgM n v c = M := ⟨_, rfl⟩
  obtain ⟨M2, hM2⟩ : ∃ M, imgM n' v' c' = M := ⟨_, rfl⟩
  obtain ⟨S1, hS1⟩ : ∃ S, pwI 64 k = S := ⟨_, rfl⟩
  obtain ⟨S2, hS2⟩ : ∃ S, sealA x k M1 = S := ⟨_, rfl⟩
  obtain ⟨S3, hS3⟩ : ∃ S, sealA x k M2 = S := ⟨_, rfl⟩
  have HC1 := Lib.hid (fun w ht => signMake_yes x k n v c M1 w (by omega) (by omega) hi hM1 hx hk ht)
  have HC2 := Lib.hid (fun w ht => signMake_yes x k n' v' c' M2 w (by omega) (by omega) hi' hM2 hx hk ht)
  have hsg := signE_own hx hk hi'
  rw [hM2, hS1, hS3, HQQ.out] at hsg
  rw [hS1, hS2] at HC1
  rw [hS1, hS3] at HC2
  have HDO := Lib.hid (do_oneN (root := Q) (cs := []) (p := S1) (a := S2) (certLast_nil HQI.out) hi hi' hsg)
  have oM1 : okM M1 = true := by rw [← hM1]; exact imgM_ok _ _ _
  have oM2 : okM M2 = true := by rw [← hM2]; exact imgM_ok _ _ _
  have HO1 := Lib.hid oM1
  have HO2 := Lib.hid oM2
  have HM1 := Lib.hid hM1
  have HM2 := Lib.hid hM2
  have iS1 : I64 S1 := by rw [← hS1]; have := okIn_yes (okIn_own hk); exact ⟨by omega, by omega⟩
  have iS2 : I64 S2 := by rw [← hS2]; have := sealA_bd x k M1; exact ⟨by omega, by omega⟩
  have iS3 : I64 S3 := by rw [← hS3]; have := sealA_bd x k M2; exact ⟨by omega, by omega⟩
  have HV1 := Lib.hid (Inv.one2 hn hc iv iS1 iS2)
  have HIS := Lib.hid (⟨iS1, iS3⟩ : I64 S1 ∧ I64 S3)
  have HI := Lib.hid hi
  have HI' := Lib.hid hi'
  have HX := Lib.hid hx
  have HK := Lib.hid hk
  obtain ⟨P1, hP1⟩ : ∃ P, pairM 0 M1 = P := ⟨_, rfl⟩
  obtain ⟨P2, hP2⟩ : ∃ P, pairM 0 M2 = P := ⟨_, rfl⟩
  have HP1 := Lib.hid hP1
  have HP2 := Lib.hid hP2
  have oP1 : okM P1 = true := by rw [← hP1]; exact pairM_ok _ _
  have oP2 : okM P2 = true := by rw [← hP2]; exact pairM_ok _ _
  have HOP1 := Lib.hid oP1
  have HOP2 := Lib.hid oP2
  have HR1 : Hid (repB [(0, M1)] = [P1, 0, 0, 0, 0, 0, 0, 0] ∧ evE [(0, M1)] = 0) := Lib.hid (by rw [← hP1]; exact rep_one oM1)
  have HR2 : Hid (repB [(0, M2)] = [P2, 0, 0, 0, 0, 0, 0, 0] ∧ evE [(0, M2)] = 0) := Lib.hid (by rw [← hP2]; exact rep_one oM2)
  have HK1 : Hid (∀ N, okM N = true → mkE x k N 1 (evBank [(0, imgM n v c)]) = 0) := Lib.hid (fun N hN => mk_zero hx hk (by rw [hM1]; show ([pairM 0 M1, 0, 0, 0, 0, 0, 0, 0] : List Int).all okM = true; rw [hP1]; exact bank_all oP1) (by decide) hN)
  have HK2 : Hid (∀ N, okM N = true → mkE x k N 1 (evBank [(0, imgM n' v' c')]) = 0) := Lib.hid (fun N hN => mk_zero hx hk (by rw [hM2]; show ([pairM 0 M2, 0, 0, 0, 0, 0, 0, 0] : List Int).all okM = true; rw [hP2]; exact bank_all oP2) (by decide) hN)
  have HTL1 : Hid (tellEs 0 (imgM n v c) = [(0, M1)]) := Lib.hid (by unfold tellEs; rw [if_pos rfl, hM1])
  have HTL2 : Hid (tellEs 0 (imgM n' v' c') = [(0, M2)]) := Lib.hid (by unfold tellEs; rw [if_pos rfl, hM2])
  clear hM1 hM2 hS1 hS2 hS3 hP1 hP2 oM1 oM2 oP1 oP2 hsg iS1 iS2 iS3 hi hi' hk hx
  refine (HC1.out _ (HT.out.below hb1)).mono ?_
  rintro e w2 ⟨rfl, hb2⟩
  have hb2a := grow_alloc (grow_step hb1 hb2) (.cells #[.string n, .int .i64 v, .string c, .int .i64 S1, .int .i64 S2] 32)
  have HA2 := Lib.hid (Box.new w2 32 #[.string n, .int .i64 v, .string c, .int .i64 S1, .int .i64 S2])
  have cN := (HN.out.below hb2a).cell
  have lN := (HN.out.below hb2a).lt
  clear hb2
  go_wp2_with fail
  clear cN lN
  refine (HC2.out _ (HT.out.below hb2a)).mono ?_
  rintro e w3 ⟨rfl, hb3⟩
  obtain ⟨W3, hW3⟩ : ∃ W3, w3.alloc (.cells #[.string n', .int .i64 v', .string c', .int .i64 S1, .int .i64 S3] 32) = W3 := ⟨_, rfl⟩
  have hb3a : Below W.heap.size W W3 := by rw [← hW3]; exact grow_alloc (grow_step hb2a hb3) _
  have HA3 : Hid (Box W3 w2.heap.size 32 #[.string n, .int .i64 v, .string c, .int .i64 S1, .int .i64 S2]) := Lib.hid (by rw [← hW3]; exact (HA2.out.below hb3).alloc_ _)
  have HZ3 : Hid (Box W3 w3.heap.size 32 #[.string n', .int .i64 v', .string c', .int .i64 S1, .int .i64 S3]) := Lib.hid (by rw [← hW3]; exact Box.new w3 32 _)
  have HF3 := Lib.hid (HF.out.below hb3a)
  have HN3 := Lib.hid (HN.out.below hb3a)
  have HG3 := Lib.hid (HG.out.below hb3a)
  have HT3 := Lib.hid (HT.out.below hb3a)
  have HB3 := Lib.hid (grow_step HB0.out hb3a)
  have cA := HA3.out.cell
  have lA := HA3.out.lt
  clear hb2a hb3 hb3a HA2 hb1 HF HN HG HT HB0
  go_wp2_with fail
  clear cA lA hW3
  refine (dNew_on Q x n v c S1 S2 _ HQI.out HX.out hn hc HI.out).mono ?_
  rintro e w4 ⟨gd, b, gs, rfl, hD4, hgs, hb4⟩
  have HD4 : Hid (DevAt w4 gd gs b Q x 0 (oneS false n v c S1 S2) [] none noX3) := Lib.hid (hD4 noX3)
  have l1 := HD4.out.lt1
  have l2 := HD4.out.lt2
  clear hD4
  have HS1 := Lib.hid (fun w_ o h hb => dStart_any w_ gd gs b Q x 0 (oneS false n v c S1 S2) [] o noX3 h HV1.out W3 hb hgs (by rw [oneS_pick, oneS_at]; exact HI.out) HT3.out (fun _ h => h.elim))
  rw [oneS_pick, oneS_safe, oneS_at, oneS_start, show (!(rI false == rI false)) = false from rfl] at HS1
  simp only at HS1
  go_wp2_with fail
  refine (HS1.out _ _ HD4.out hb4).mono ?_
  rintro e w5 ⟨rfl, hD5, hk5⟩
  have hb5 := hb4.trans (hk5.below hb4.size (by intro j h; rcases h with h | h <;> omega))
  have HD5 := Lib.hid hD5
  clear hD5 hk5 HD4 hb4
  go_wp2_with fail
  obtain ⟨⟨v1, v2, v3, v4, v5⟩, hv_⟩ : ∃ z, mkV x k 1 1 (evBank [(0, imgM n v c)]) = z := ⟨_, rfl⟩
  refine (dTell_on _ gd gs b Q x 0 _ [] _ noX3 HD5.out n v c rfl k 1 1 (v1, v2, v3, v4, v5) hv_.symm 0 (HK1.out 1 (by decide))).mono ?_
  clear hv_
  rintro e w6 ⟨TA, tc, rfl, hTE, hb6_⟩
  rw [HTL1.out] at hTE
  rw [HTL1.out]
  have hb6q := grow_alloc hb6_ (.cells #[.int .i64 v1, .int .i64 v2, .int .i64 v3, .int .i64 v4, .int .i64 v5] 39)
  have hb6 := grow_step hb5 hb6q
  have HTE := Lib.hid (hTE.below (grow_alloc (grow_refl _) (.cells #[.int .i64 v1, .int .i64 v2, .int .i64 v3, .int .i64 v4, .int .i64 v5] 39)))
  clear hTE hb6_
  have HD6 := Lib.hid (HD5.out.below hb6q)
  clear HD5
  go_wp2_with fail
  refine (replay_any TA tc [(0, M1)] _ HTE.out (by simp)).mono ?_
  rintro e w7 ⟨y0, y1, y2, y3, y4, y5, y6, y7, hy, rfl, hb7⟩
  rw [HR1.out.1] at hy
  rw [HR1.out.2]
  simp only [List.cons.injEq, and_true] at hy
  obtain ⟨hy0, rfl, rfl, rfl, rfl, rfl, rfl, rfl⟩ := hy
  rw [hy0]
  clear hy0
  clear HTE
  have HD7 := Lib.hid ((HD6.out.below hb7).below (grow_alloc (grow_refl _) (.cells #[.int .i64 P1, .int .i64 0, .int .i64 0, .int .i64 0, .int .i64 0, .int .i64 0, .int .i64 0, .int .i64 0] 44)))
  have hb7a := grow_alloc (grow_step hb6 hb7) (.cells #[.int .i64 P1, .int .i64 0, .int .i64 0, .int .i64 0, .int .i64 0, .int .i64 0, .int .i64 0, .int .i64 0] 44)
  have HW7 := Lib.hid (Box.new w7 44 #[.int .i64 P1, .int .i64 0, .int .i64 0, .int .i64 0, .int .i64 0, .int .i64 0, .int .i64 0, .int .i64 0])
  have gW7 : gd < w7.heap.size := by have h1 := HD6.out.lt3; have h2 := hb7.size; omega
  have cW := HW7.out.cell
  have lW := HW7.out.lt
  clear HD6 hb6 hb7
  go_wp2_with fail
  clear cW lW
  obtain ⟨E3, hE3⟩ : ∃ E, clE sec 1 [P1, 0, 0, 0, 0, 0, 0, 0] = E := ⟨_, rfl⟩
  have HE3 := Lib.hid hE3
  clear hE3
  refine (close_any sec 1 P1 0 0 0 0 0 0 0 _).mono ?_
  rintro e w8 ⟨rfl, hb8⟩
  rw [HE3.out]
  have HW8 := Lib.hid (HW7.out.below hb8)
  have HD8 := Lib.hid (HD7.out.below hb8)
  have hb8a := grow_step hb7a hb8
  have gW8 : w7.heap.size < w8.heap.size := HW8.out.lt
  clear hb8 hb7a HD7 HW7
  by_cases hE0 : E3 = 0
  rotate_left
  · have t : (E3 != 0) = true := by simp [hE0]
    have hs : okM sec = false := by
      cases h : okM sec
      · rfl
      · exfalso
        apply hE0
        rw [← HE3.out]
        unfold clE digE
        rw [h, bank_all HOP1.out]; rfl
    have hs2 := okM_no hs
    clear hE0 hs
    by_cases q1 : sec < 0
    · go_wp2_with fail
      go_ret
      exact ⟨rfl, grow_step HB3.out (grow_alloc hb8a _)⟩
    · have q2 : 1000002 < sec := by omega
      go_wp2_with fail
      go_ret
      exact ⟨rfl, grow_step HB3.out (grow_alloc hb8a _)⟩
  subst hE0
  have hcl := close_ok HE3.out
  obtain ⟨L, hL⟩ : ∃ L, clL sec 1 [P1, 0, 0, 0, 0, 0, 0, 0] = L := ⟨_, rfl⟩
  obtain ⟨I, hI⟩ : ∃ I, clI sec 1 [P1, 0, 0, 0, 0, 0, 0, 0] = I := ⟨_, rfl⟩
  have HOP : Hid (∀ c : List Int, c.all okM = true → opE 1 L I c = (if isM c 1 = isM [P1, 0, 0, 0, 0, 0, 0, 0] 1 then 0 else 8) ∧ (isM c 1 = isM [P1, 0, 0, 0, 0, 0, 0, 0] 1 → opM 1 L I c = sec)) := Lib.hid (fun c hc => by
    have h := open_of HE3.out hc
    rw [hL, hI] at h; exact h)
  rw [hcl.2.2.2.1, hL, hI]
  have HBX8 := Lib.hid (Box.new w8 48 #[.int .i64 1, .int .i64 L, .int .i64 I])
  have HW8a := Lib.hid (HW8.out.alloc_ (.cells #[.int .i64 1, .int .i64 L, .int .i64 I] 48))
  have HD8a := Lib.hid (HD8.out.below (grow_alloc (grow_refl _) (.cells #[.int .i64 1, .int .i64 L, .int .i64 I] 48)))
  have hb8b := grow_alloc hb8a (.cells #[.int .i64 1, .int .i64 L, .int .i64 I] 48)
  have cZ := (HZ3.out.below hb8b).cell
  have lZ := (HZ3.out.below hb8b).lt
  clear hcl hL hI HW8 HD8 hb8a
  go_wp2_with fail
  clear cZ lZ
  refine (dUpdate_any _ gd gs b Q x 0 _ [] _ noX3 HD8a.out HV1.out none 0 [] n' v' c' S1 S3 (CertsAt.nil_ _ _) (by simp) hn' hc' (HT3.out.below hb8b) (fun _ h => h.elim)).mono ?_
  rintro e w9 ⟨rfl, hD9, hk9⟩
  rw [HDO.out.1]
  rw [HDO.out.2] at hD9
  have hb9 := hb8b.trans (hk9.below hb8b.size (by intro j h; omega))
  have HW9 := Lib.hid (HW8a.out.but hk9 (by intro h; omega))
  have HBX9 := Lib.hid (HBX8.out.but hk9 (by intro h; omega))
  have HNE := Lib.hid (fun w => imgNewer_any n' v' c' n v c w (by omega) (by omega) (by omega) (by omega))
  have hne : newE n' v' c' n v c = if n'.data.toList = n.data.toList then 0 else 3 := by unfold newE; rw [if_pos HI'.out, if_pos HI.out]
  have hnb : newB n' v' c' n v c = (decide ((if n'.data.toList = n.data.toList then (0 : Int) else 3) = 0) && decide (v < v')) := by unfold newB; rw [hne]
  rw [hne, hnb] at HNE
  clear hne hnb hk9 HW8a HBX8 HD8a hb8b
  by_cases hnm : n'.data.toList = n.data.toList
  rotate_left
  · simp only [if_neg hnm] at hD9 HNE ⊢
    have HD9 := Lib.hid hD9
    clear hD9 hnm
    go_wp2_with fail
    refine (HS1.out _ _ HD9.out hb9).mono ?_
    rintro e w10 ⟨rfl, hD10, hk10⟩
    have hb10 := hb9.trans (hk10.below hb9.size (by intro j h; rcases h with h | h <;> omega))
    have cF := (HF3.out.below hb10).cell
    have lF := (HF3.out.below hb10).lt
    have cN := (HN3.out.below hb10).cell
    have lN := (HN3.out.below hb10).lt
    clear hk10 hD10
    go_wp2_with fail
    clear cF lF cN lN
    refine (HNE.out _).mono ?_
    rintro e w11 ⟨rfl, hb11⟩
    go_wp2_with fail
    refine (error_any 3 3 _ (HG3.out.below (grow_step hb10 hb11)) (i64_small (by decide) (by decide))).mono ?_
    rintro e w12 ⟨rfl, hb12⟩
    go_wp2_with fail
    go_ret
    exact ⟨rfl, grow_step HB3.out (grow_step (grow_step hb10 hb11) hb12)⟩
  obtain rfl := bytes_eq hnm
  clear hnm
  simp only [if_true] at hD9 HNE ⊢
  by_cases hv : v < v'
  · have dv : decide (v < v') = true := by simp [hv]
    simp only [if_pos hv, dv, decide_true, Bool.and_self] at hD9 HNE ⊢
    rw [z2_two] at hD9
    have HD9 := Lib.hid hD9
    have hJ3 := HV1.out.doS Q [] [] (z := (n', v', c', S1, S3)) hn' hc' iv' HIS.out.1 HIS.out.2
    rw [HDO.out.2, if_pos rfl, if_pos hv, z2_two] at hJ3
    have hJ2 := hJ3.startS
    rw [z2_start3] at hJ2
    have hJ1 := hJ2.startS
    rw [z2_start2] at hJ1
    have hJ0 := hJ1.startS
    rw [z2_start1] at hJ0
    have HT_3 := Lib.hid (fun w_ o h hb => dStart_any w_ gd gs b Q x 0 (z2 3 false n' v c S1 S2 n' v' c' S1 S3) [] o noX3 h hJ3 W3 hb hgs (by rw [z2_pick3, z2_at3]; exact HI'.out) HT3.out (fun _ h => h.elim))
    rw [z2_pick3, z2_safe3, z2_at3, z2_start3, show (!(rI true == rI false)) = true from rfl] at HT_3
    have HT_2 := Lib.hid (fun w_ o h hb => dStart_any w_ gd gs b Q x 0 (z2 2 true n' v c S1 S2 n' v' c' S1 S3) [] o noX3 h hJ2 W3 hb hgs (by rw [z2_pick2, z2_at2]; exact HI'.out) HT3.out (fun _ h => h.elim))
    rw [z2_pick2, z2_at2, z2_start2] at HT_2
    have HT_1 := Lib.hid (fun w_ o h hb => dStart_any w_ gd gs b Q x 0 (z2 1 true n' v c S1 S2 n' v' c' S1 S3) [] o noX3 h hJ1 W3 hb hgs (by rw [z2_pick1, z2_at1]; exact HI'.out) HT3.out (fun _ h => h.elim))
    rw [z2_pick1, z2_at1, z2_start1] at HT_1
    have HT_0 := Lib.hid (fun w_ o h hb => dStart_any w_ gd gs b Q x 0 (z2 0 true n' v c S1 S2 n' v' c' S1 S3) [] o noX3 h hJ0 W3 hb hgs (by rw [z2_pick0, z2_at0]; exact HI.out) HT3.out (fun _ h => h.elim))
    rw [z2_pick0, z2_safe0, z2_at0, show (!(rI false == rI false)) = false from rfl] at HT_0
    simp only at HT_3 HT_2 HT_1 HT_0
    clear hJ3 hJ2 hJ1 hJ0 hD9 dv
    go_wp2_with fail
    refine (HT_3.out _ _ HD9.out hb9).mono ?_
    rintro e w10 ⟨rfl, hD10, hk10⟩
    have hb10 := hb9.trans (hk10.below hb9.size (by intro j h; rcases h with h | h <;> omega))
    have HD10 := Lib.hid hD10
    have HW10 := Lib.hid (HW9.out.but hk10 (by intro h; rcases h with h | h <;> omega))
    have HBX10 := Lib.hid (HBX9.out.but hk10 (by intro h; rcases h with h | h <;> omega))
    have cF := (HF3.out.below hb10).cell
    have lF := (HF3.out.below hb10).lt
    have cN := (HN3.out.below hb10).cell
    have lN := (HN3.out.below hb10).lt
    clear hk10 hD10 HW9 HBX9 HD9 hb9
    go_wp2_with fail
    clear cF lF cN lN
    refine (HNE.out _).mono ?_
    rintro e w11 ⟨rfl, hb11q⟩
    have HD11 := Lib.hid (HD10.out.below hb11q)
    have HW11 := Lib.hid (HW10.out.below hb11q)
    have HBX11 := Lib.hid (HBX10.out.below hb11q)
    have hb11 := grow_step hb10 hb11q
    clear hb11q HD10 HW10 HBX10 hb10
    go_wp2_with fail
    obtain ⟨⟨v1_, v2_, v3_, v4_, v5_⟩, hv_⟩ : ∃ z, mkV x k 2 1 (evBank [(0, imgM n' v' c')]) = z := ⟨_, rfl⟩
    refine (dTell_on _ gd gs b Q x 0 _ [] _ noX3 HD11.out n' v' c' rfl k 2 1 (v1_, v2_, v3_, v4_, v5_) hv_.symm 0 (HK2.out 2 (by decide))).mono ?_
    clear hv_
    rintro e w12 ⟨TA2, tc2, rfl, hTE, hb12q⟩
    rw [HTL2.out] at hTE
    rw [HTL2.out]
    have HTE := Lib.hid hTE
    have HD12 := Lib.hid (HD11.out.below hb12q)
    have HW12 := Lib.hid (HW11.out.below hb12q)
    have HBX12 := Lib.hid (HBX11.out.below hb12q)
    have hb12 := grow_step hb11 hb12q
    clear hTE hb12q HD11 HW11 HBX11 hb11
    go_wp2_with fail
    refine (replay_any TA2 tc2 [(0, M2)] _ HTE.out (by simp)).mono ?_
    rintro e w13 ⟨y0, y1, y2, y3, y4, y5, y6, y7, hy, rfl, hb13q⟩
    rw [HR2.out.1] at hy
    rw [HR2.out.2]
    simp only [List.cons.injEq, and_true] at hy
    obtain ⟨hy0, rfl, rfl, rfl, rfl, rfl, rfl, rfl⟩ := hy
    rw [hy0]
    clear hy0 HTE
    have hx13 := grow_alloc hb13q (.cells #[.int .i64 P2, .int .i64 0, .int .i64 0, .int .i64 0, .int .i64 0, .int .i64 0, .int .i64 0, .int .i64 0] 44)
    have HD13 := Lib.hid (HD12.out.below hx13)
    have HW13 := Lib.hid (HW12.out.below hx13)
    have HBX13 := Lib.hid (HBX12.out.below hx13)
    have HV13 := Lib.hid (Box.new w13 44 #[.int .i64 P2, .int .i64 0, .int .i64 0, .int .i64 0, .int .i64 0, .int .i64 0, .int .i64 0, .int .i64 0])
    have hb13 := grow_step hb12 hx13
    have gV13 : gd < w13.heap.size := by have h1 := HD12.out.lt3; have h2 := hb13q.size; omega
    clear hx13 hb13q HD12 HW12 HBX12 hb12
    have cV := HV13.out.cell
    have lV := HV13.out.lt
    have cX := HBX13.out.cell
    have lX := HBX13.out.lt
    go_wp2_with fail
    clear cV lV cX lX
    by_cases hPP : P2 = P1
    · have hop := HOP.out [P2, 0, 0, 0, 0, 0, 0, 0] (bank_all HOP2.out)
      have his : isM [P2, 0, 0, 0, 0, 0, 0, 0] 1 = isM [P1, 0, 0, 0, 0, 0, 0, 0] 1 := (is_one1 HOP2.out HOP1.out).2 hPP
      have HOE : Hid (opE 1 L I [P2, 0, 0, 0, 0, 0, 0, 0] = 0 ∧ opM 1 L I [P2, 0, 0, 0, 0, 0, 0, 0] = sec) := Lib.hid ⟨by rw [hop.1, if_pos his], hop.2 his⟩
      have HSM : Hid (sameB [P2, 0, 0, 0, 0, 0, 0, 0] [P1, 0, 0, 0, 0, 0, 0, 0] 1 = true ∧ sameE [P2, 0, 0, 0, 0, 0, 0, 0] [P1, 0, 0, 0, 0, 0, 0, 0] 1 = 0) := Lib.hid (by
        subst hPP
        unfold sameB sameE
        rw [bank_all HOP2.out]
        refine ⟨?_, rfl⟩
        simp; decide)
      clear hop his hPP
      refine (open_any 1 L I P2 0 0 0 0 0 0 0 _).mono ?_
      rintro e w14 ⟨rfl, hb14q⟩
      rw [HOE.out.1, HOE.out.2]
      have HD14 := Lib.hid (HD13.out.below hb14q)
      have HW14 := Lib.hid (HW13.out.below hb14q)
      have HV14 := Lib.hid (HV13.out.below hb14q)
      have hb14 := grow_step hb13 hb14q
      have cV := HV14.out.cell
      have lV := HV14.out.lt
      have cW := HW14.out.cell
      have lW := HW14.out.lt
      clear hb14q HD13 HW13 HV13 hb13
      go_wp2_with fail
      clear cV lV cW lW
      refine (same_any P2 0 0 0 0 0 0 0 P1 0 0 0 0 0 0 0 1 _).mono ?_
      rintro e w15 ⟨rfl, hb15q⟩
      rw [HSM.out.1, HSM.out.2]
      have HD15 := Lib.hid (HD14.out.below hb15q)
      have hb15 := grow_step hb14 hb15q
      have ts : (sec != sec) = false := by simp
      clear hb15q HD14 HW14 HV14 hb14
      go_wp2_with fail
      refine (HT_2.out _ _ HD15.out hb15).mono ?_
      rintro e w16 ⟨rfl, hD16, hk16⟩
      have hb16 := hb15.trans (hk16.below hb15.size (by intro j h; rcases h with h | h <;> omega))
      have HD16 := Lib.hid hD16
      clear hD16 hk16 HD15 hb15
      go_wp2_with fail
      refine (HT_1.out _ _ HD16.out hb16).mono ?_
      rintro e w17 ⟨rfl, hD17, hk17⟩
      have hb17 := hb16.trans (hk17.below hb16.size (by intro j h; rcases h with h | h <;> omega))
      have HD17 := Lib.hid hD17
      clear hD17 hk17 HD16 hb16
      go_wp2_with fail
      refine (HT_0.out _ _ HD17.out hb17).mono ?_
      rintro e w18 ⟨rfl, hD18, hk18⟩
      have hb18 := hb17.trans (hk18.below hb17.size (by intro j h; rcases h with h | h <;> omega))
      have HD18 := Lib.hid hD18
      clear hD18 hk18 HD17 hb17
      go_wp2_with fail
      refine (dRuns_on _ gd gs b Q x 0 _ _ _ noX3 HD18.out n' v c rfl).mono ?_
      rintro e w19 ⟨rfl, hb19⟩
      have HM19 := Lib.hid (Box.new w19 23 #[.string n', .int .i64 v, .string c])
      have hb19a := grow_alloc (grow_step hb18 hb19) (.cells #[.string n', .int .i64 v, .string c] 23)
      have cM := HM19.out.cell
      have lM := HM19.out.lt
      have cF := (HF3.out.below hb19a).cell
      have lF := (HF3.out.below hb19a).lt
      have q1 := fun w => eqIm2 n' v c hn hc iv w
      have q2 := fun o p w => guardIm (.string n') (.int .i64 v) (.string c) (.string n') (.int .i64 v) (.string c) .eql o p w
      clear hb19 HD18 hb18
      go_wp2_with fail
      go_ret
      exact ⟨rfl, grow_step HB3.out hb19a⟩
    · have hop := HOP.out [P2, 0, 0, 0, 0, 0, 0, 0] (bank_all HOP2.out)
      have his : ¬ isM [P2, 0, 0, 0, 0, 0, 0, 0] 1 = isM [P1, 0, 0, 0, 0, 0, 0, 0] 1 := fun h => hPP ((is_one1 HOP2.out HOP1.out).1 h)
      obtain ⟨X1, hX1⟩ : ∃ X, opM 1 L I [P2, 0, 0, 0, 0, 0, 0, 0] = X := ⟨_, rfl⟩
      have HOE : Hid (opE 1 L I [P2, 0, 0, 0, 0, 0, 0, 0] = 8 ∧ opM 1 L I [P2, 0, 0, 0, 0, 0, 0, 0] = X1) := Lib.hid ⟨by rw [hop.1, if_neg his], hX1⟩
      have HSM : Hid (sameB [P2, 0, 0, 0, 0, 0, 0, 0] [P1, 0, 0, 0, 0, 0, 0, 0] 1 = false ∧ sameE [P2, 0, 0, 0, 0, 0, 0, 0] [P1, 0, 0, 0, 0, 0, 0, 0] 1 = 0) := Lib.hid (by
        unfold sameB sameE
        rw [bank_all HOP2.out, bank_all HOP1.out, told_one1, told_one1]
        refine ⟨?_, rfl⟩
        simp [hPP])
      clear hop his hPP hX1
      refine (open_any 1 L I P2 0 0 0 0 0 0 0 _).mono ?_
      rintro e w14 ⟨rfl, hb14q⟩
      rw [HOE.out.1, HOE.out.2]
      have HD14 := Lib.hid (HD13.out.below hb14q)
      have HW14 := Lib.hid (HW13.out.below hb14q)
      have HV14 := Lib.hid (HV13.out.below hb14q)
      have hb14 := grow_step hb13 hb14q
      have cV := HV14.out.cell
      have lV := HV14.out.lt
      have cW := HW14.out.cell
      have lW := HW14.out.lt
      clear hb14q HD13 HW13 HV13 hb13
      go_wp2_with fail
      clear cV lV cW lW
      refine (same_any P2 0 0 0 0 0 0 0 P1 0 0 0 0 0 0 0 1 _).mono ?_
      rintro e w15 ⟨rfl, hb15q⟩
      rw [HSM.out.1, HSM.out.2]
      have HD15 := Lib.hid (HD14.out.below hb15q)
      have hb15 := grow_step hb14 hb15q
      have ts : (sec != sec) = false := by simp
      clear hb15q HD14 HW14 HV14 hb14
      go_wp2_with fail
      refine (HT_2.out _ _ HD15.out hb15).mono ?_
      rintro e w16 ⟨rfl, hD16, hk16⟩
      have hb16 := hb15.trans (hk16.below hb15.size (by intro j h; rcases h with h | h <;> omega))
      have HD16 := Lib.hid hD16
      clear hD16 hk16 HD15 hb15
      go_wp2_with fail
      refine (HT_1.out _ _ HD16.out hb16).mono ?_
      rintro e w17 ⟨rfl, hD17, hk17⟩
      have hb17 := hb16.trans (hk17.below hb16.size (by intro j h; rcases h with h | h <;> omega))
      have HD17 := Lib.hid hD17
      clear hD17 hk17 HD16 hb16
      go_wp2_with fail
      refine (HT_0.out _ _ HD17.out hb17).mono ?_
      rintro e w18 ⟨rfl, hD18, hk18⟩
      have hb18 := hb17.trans (hk18.below hb17.size (by intro j h; rcases h with h | h <;> omega))
      have HD18 := Lib.hid hD18
      clear hD18 hk18 HD17 hb17
      go_wp2_with fail
      refine (dRuns_on _ gd gs b Q x 0 _ _ _ noX3 HD18.out n' v c rfl).mono ?_
      rintro e w19 ⟨rfl, hb19⟩
      have HM19 := Lib.hid (Box.new w19 23 #[.string n', .int .i64 v, .string c])
      have hb19a := grow_alloc (grow_step hb18 hb19) (.cells #[.string n', .int .i64 v, .string c] 23)
      have cM := HM19.out.cell
      have lM := HM19.out.lt
      have cF := (HF3.out.below hb19a).cell
      have lF := (HF3.out.below hb19a).lt
      have q1 := fun w => eqIm2 n' v c hn hc iv w
      have q2 := fun o p w => guardIm (.string n') (.int .i64 v) (.string c) (.string n') (.int .i64 v) (.string c) .eql o p w
      clear hb19 HD18 hb18
      go_wp2_with fail
      go_ret
      exact ⟨rfl, grow_step HB3.out hb19a⟩
  · have dv : decide (v < v') = false := by simp; omega
    simp only [if_neg hv, dv, decide_true, Bool.and_false] at hD9 HNE ⊢
    have HD9 := Lib.hid hD9
    clear hD9 dv
    go_wp2_with fail
    refine (HS1.out _ _ HD9.out hb9).mono ?_
    rintro e w10 ⟨rfl, hD10, hk10⟩
    have hb10 := hb9.trans (hk10.below hb9.size (by intro j h; rcases h with h | h <;> omega))
    have HD10 := Lib.hid hD10
    have HW10 := Lib.hid (HW9.out.but hk10 (by intro h; rcases h with h | h <;> omega))
    have HBX10 := Lib.hid (HBX9.out.but hk10 (by intro h; rcases h with h | h <;> omega))
    have cF := (HF3.out.below hb10).cell
    have lF := (HF3.out.below hb10).lt
    have cN := (HN3.out.below hb10).cell
    have lN := (HN3.out.below hb10).lt
    clear hk10 hD10 HW9 HBX9 HD9 hb9
    go_wp2_with fail
    clear cF lF cN lN
    refine (HNE.out _).mono ?_
    rintro e w11 ⟨rfl, hb11q⟩
    have HD11 := Lib.hid (HD10.out.below hb11q)
    have HW11 := Lib.hid (HW10.out.below hb11q)
    have HBX11 := Lib.hid (HBX10.out.below hb11q)
    have hb11 := grow_step hb10 hb11q
    clear hb11q HD10 HW10 HBX10 hb10
    go_wp2_with fail
    obtain ⟨⟨v1_, v2_, v3_, v4_, v5_⟩, hv_⟩ : ∃ z, mkV x k 2 1 (evBank [(0, imgM n' v c)]) = z := ⟨_, rfl⟩
    refine (dTell_on _ gd gs b Q x 0 _ [] _ noX3 HD11.out n' v c rfl k 2 1 (v1_, v2_, v3_, v4_, v5_) hv_.symm 0 (HK1.out 2 (by decide))).mono ?_
    clear hv_
    rintro e w12 ⟨TA2, tc2, rfl, hTE, hb12q⟩
    rw [HTL1.out] at hTE
    rw [HTL1.out]
    have HTE := Lib.hid hTE
    have HD12 := Lib.hid (HD11.out.below hb12q)
    have HW12 := Lib.hid (HW11.out.below hb12q)
    have HBX12 := Lib.hid (HBX11.out.below hb12q)
    have hb12 := grow_step hb11 hb12q
    clear hTE hb12q HD11 HW11 HBX11 hb11
    go_wp2_with fail
    refine (replay_any TA2 tc2 [(0, M1)] _ HTE.out (by simp)).mono ?_
    rintro e w13 ⟨y0, y1, y2, y3, y4, y5, y6, y7, hy, rfl, hb13q⟩
    rw [HR1.out.1] at hy
    rw [HR1.out.2]
    simp only [List.cons.injEq, and_true] at hy
    obtain ⟨hy0, rfl, rfl, rfl, rfl, rfl, rfl, rfl⟩ := hy
    rw [hy0]
    clear hy0 HTE
    have hx13 := grow_alloc hb13q (.cells #[.int .i64 P1, .int .i64 0, .int .i64 0, .int .i64 0, .int .i64 0, .int .i64 0, .int .i64 0, .int .i64 0] 44)
    have HD13 := Lib.hid (HD12.out.below hx13)
    have HW13 := Lib.hid (HW12.out.below hx13)
    have HBX13 := Lib.hid (HBX12.out.below hx13)
    have HV13 := Lib.hid (Box.new w13 44 #[.int .i64 P1, .int .i64 0, .int .i64 0, .int .i64 0, .int .i64 0, .int .i64 0, .int .i64 0, .int .i64 0])
    have hb13 := grow_step hb12 hx13
    have gV13 : gd < w13.heap.size := by have h1 := HD12.out.lt3; have h2 := hb13q.size; omega
    clear hx13 hb13q HD12 HW12 HBX12 hb12
    have cV := HV13.out.cell
    have lV := HV13.out.lt
    have cX := HBX13.out.cell
    have lX := HBX13.out.lt
    go_wp2_with fail
    clear cV lV cX lX
    have hop := HOP.out [P1, 0, 0, 0, 0, 0, 0, 0] (bank_all HOP1.out)
    have HOE : Hid (opE 1 L I [P1, 0, 0, 0, 0, 0, 0, 0] = 0 ∧ opM 1 L I [P1, 0, 0, 0, 0, 0, 0, 0] = sec) := Lib.hid ⟨by rw [hop.1, if_pos rfl], hop.2 rfl⟩
    have HSM : Hid (sameB [P1, 0, 0, 0, 0, 0, 0, 0] [P1, 0, 0, 0, 0, 0, 0, 0] 1 = true ∧ sameE [P1, 0, 0, 0, 0, 0, 0, 0] [P1, 0, 0, 0, 0, 0, 0, 0] 1 = 0) := Lib.hid (by
      unfold sameB sameE
      rw [bank_all HOP1.out]
      refine ⟨?_, rfl⟩
      simp; decide)
    clear hop
    have HT_2 := HS1
    have HT_1 := HS1
    have HT_0 := HS1
    refine (open_any 1 L I P1 0 0 0 0 0 0 0 _).mono ?_
    rintro e w14 ⟨rfl, hb14q⟩
    rw [HOE.out.1, HOE.out.2]
    have HD14 := Lib.hid (HD13.out.below hb14q)
    have HW14 := Lib.hid (HW13.out.below hb14q)
    have HV14 := Lib.hid (HV13.out.below hb14q)
    have hb14 := grow_step hb13 hb14q
    have cV := HV14.out.cell
    have lV := HV14.out.lt
    have cW := HW14.out.cell
    have lW := HW14.out.lt
    clear hb14q HD13 HW13 HV13 hb13
    go_wp2_with fail
    clear cV lV cW lW
    refine (same_any P1 0 0 0 0 0 0 0 P1 0 0 0 0 0 0 0 1 _).mono ?_
    rintro e w15 ⟨rfl, hb15q⟩
    rw [HSM.out.1, HSM.out.2]
    have HD15 := Lib.hid (HD14.out.below hb15q)
    have hb15 := grow_step hb14 hb15q
    have ts : (sec != sec) = false := by simp
    clear hb15q HD14 HW14 HV14 hb14
    go_wp2_with fail
    refine (HT_2.out _ _ HD15.out hb15).mono ?_
    rintro e w16 ⟨rfl, hD16, hk16⟩
    have hb16 := hb15.trans (hk16.below hb15.size (by intro j h; rcases h with h | h <;> omega))
    have HD16 := Lib.hid hD16
    clear hD16 hk16 HD15 hb15
    go_wp2_with fail
    refine (HT_1.out _ _ HD16.out hb16).mono ?_
    rintro e w17 ⟨rfl, hD17, hk17⟩
    have hb17 := hb16.trans (hk17.below hb16.size (by intro j h; rcases h with h | h <;> omega))
    have HD17 := Lib.hid hD17
    clear hD17 hk17 HD16 hb16
    go_wp2_with fail
    refine (HT_0.out _ _ HD17.out hb17).mono ?_
    rintro e w18 ⟨rfl, hD18, hk18⟩
    have hb18 := hb17.trans (hk18.below hb17.size (by intro j h; rcases h with h | h <;> omega))
    have HD18 := Lib.hid hD18
    clear hD18 hk18 HD17 hb17
    go_wp2_with fail
    refine (dRuns_on _ gd gs b Q x 0 _ _ _ noX3 HD18.out n' v c rfl).mono ?_
    rintro e w19 ⟨rfl, hb19⟩
    have HM19 := Lib.hid (Box.new w19 23 #[.string n', .int .i64 v, .string c])
    have hb19a := grow_alloc (grow_step hb18 hb19) (.cells #[.string n', .int .i64 v, .string c] 23)
    have cM := HM19.out.cell
    have lM := HM19.out.lt
    have cF := (HF3.out.below hb19a).cell
    have lF := (HF3.out.below hb19a).lt
    have q1 := fun w => eqIm2 n' v c hn hc iv w
    have q2 := fun o p w => guardIm (.string n') (.int .i64 v) (.string c) (.string n') (.int .i64 v) (.string c) .eql o p w
    clear hb19 HD18 hb18
    go_wp2_with fail
    go_ret
    exact ⟨rfl, grow_step HB3.out hb19a⟩

set_option maxRecDepth 100000 in
theorem topSealed_walks (H : Type) (enc : TypeId × Value → H) : WalksD enc Tryz.prog TabTD 3 Tryz.f3 := by
  intro W base args ds p hval hA hlt hsz hsh hdoor
  have hsz0 := hsz
  rw [Tryz.params3] at hA hval
  obtain ⟨v0, vs0, d0, ds0, p0, q0, hargs, rfl, rfl, h0, r0⟩ := trodAll_cons hA
  obtain ⟨v1, vs1, d1, ds1, p1, q1, rfl, rfl, rfl, h1, r1⟩ := trodAll_cons r0
  obtain ⟨v2, vs2, d2, ds2, p2, q2, rfl, rfl, rfl, h2, r2⟩ := trodAll_cons r1
  obtain ⟨v3, vs3, d3, ds3, p3, q3, rfl, rfl, rfl, h3, r3⟩ := trodAll_cons r2
  obtain ⟨v4, vs4, d4, ds4, p4, q4, rfl, rfl, rfl, h4, r4⟩ := trodAll_cons r3
  obtain ⟨rfl, rfl, rfl⟩ := trodAll_nil r4
  obtain rfl : args = #[v0, v1, v2, v3, v4] := by cases args; simp_all
  obtain ⟨a0, rfl, w0⟩ := op_int (hval 0 3 v0 rfl rfl) h0
  obtain ⟨a1, b1, c1, rfl, w1, u1, z1⟩ := op_image (hval 1 23 v1 rfl rfl) h1 (w_each hsz 1 23 _ (by rw [Tryz.params3]; rfl) rfl)
  obtain ⟨a2, b2, c2, rfl, w2, u2, z2⟩ := op_image (hval 2 23 v2 rfl rfl) h2 (w_each hsz 2 23 _ (by rw [Tryz.params3]; rfl) rfl)
  obtain ⟨a3, rfl, w3⟩ := op_int (hval 3 3 v3 rfl rfl) h3
  obtain ⟨a4, rfl, w4⟩ := op_int (hval 4 3 v4 rfl rfl) h4
  exact topSealed_walk W a0 a1 b1 c1 a2 b2 c2 a3 a4 w0 w1 u1 z1 w2 u2 z2 w3 w4 hdoor

set_option maxRecDepth 100000 in
theorem topSealed_lifted (os : Os) (started : os.Started) (H : Type) (enc : TypeId × Value → H) :
    ReturnsInHanded {} Tryz.checked os 3 .any (fun w args => (Rows.topSealedSpec.pre enc Tryz.checked.prog Tryz.f3 [] false w args ∧ laidMetH Tryz.checked.prog LaidTD w) ∧ sizedMet enc Tryz.checked.prog Tryz.f3 (OpenSpec.ofChange Rows.topSealedSpec) false w args) (Rows.topSealedSpec.post enc Tryz.checked.prog Tryz.f3 false true false false) :=
  returns_of_walkD (C := Tryz.checked) (s := Rows.topSealedSpec) (L := LaidTD) (D := TabTD) own started (by kernel_rfl) Tryz.func3
    (ChangeSpec.witness_at (enc := enc) (C := Tryz.checked) (os := os) (X := fun w _ => laidMetH Tryz.prog LaidTD w) false (laidWorldTD os) #[.int .i64 0, .agg #[.string ⟨#[]⟩, .int .i64 0, .string ⟨#[]⟩], .agg #[.string ⟨#[]⟩, .int .i64 0, .string ⟨#[]⟩], .int .i64 0, .int .i64 0] 8 rfl (by kernel_rfl) (by kernel_rfl) (by kernel_rfl) (by kernel_rfl) (by kernel_rfl) (laidWorldTD_met os _))
    (fun W h => tabTD_of_laid h) laidOut (by kernel_rfl) rfl Tryz.underlying4 rfl (fun ds h => by match ds, h with | [_, _, _, _, _], _ => rfl) (topSealed_walks H enc)

theorem topSealed_bare : Rows.TopSealedSaid :=
  OpenClaim.holds_of_wide 3 Tryz.f3 rfl rfl rfl rfl rfl rfl rfl ⟨rfl, rfl, rfl, rfl, rfl⟩ rfl rfl rfl rfl rfl (by kernel_rfl) Tryz.func3 (by kernel_rfl)
    (of_decide_eq_true (by kernel_rfl)) (by unfold Func.isWrapper; rw [if_neg (of_decide_eq_false (by kernel_rfl))]; exact ⟨rfl, rfl⟩)
    (fun os started H enc _ => topSealed_lifted os started H enc)

theorem topSealed_holds : Rows.TopSealedCardSaid :=
  Claim7.holds_tied_plain_at .later [] [.data, .data, .data, .handle] true Rows.topSealedCard.stood.harness true
    topSealed_bare (fun _ h => by cases h) (by kernel_rfl) (fun _ h => by cases h) topSealed_row_tie rfl ⟨rfl, rfl⟩ (by kernel_rfl) rfl
    (fun f fn hf hfn => by
      obtain rfl : f = 3 := Option.some.inj ((show Tryz.prog.funcNamed "bootstair/stairtop.TopSealed" = some 3 by kernel_rfl).symm.trans hf) |>.symm
      obtain rfl : fn = Tryz.f3 := (Option.some.inj (Tryz.func3.symm.trans hfn)).symm
      exact ⟨by kernel_rfl, fun j t ht => by
        have hm : t ∈ Tryz.f3.params.toList := by simpa using Array.mem_of_getElem? ht
        have hall : (Tryz.f3.params.toList.all fun u => !Tryz.prog.wantsStandIn u) = true := by kernel_rfl
        exact (show Tryz.prog.wantsStandIn t = false by simpa using List.all_eq_true.1 hall t hm)⟩)
    (by kernel_rfl)

end Go.Proofs.YtdedllfgeekogaaGreatDoor
