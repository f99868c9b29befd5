/- UpdateNewer: only what is newer, and of whom it should be; and once good it cannot be put again. The listed package variables hold what the program's text lays. -/
import Derived.Test.YtflhbnaocognlaaDoorRows
import Derived.Test.YtflhbnaocognlaaDoorOpen
import Derived.Test.YtflhbnaocognlaaDoorOpI
import Derived.Test.YtflhbnaocognlaaDoorOpC
import Derived.Test.YtflhbnaocognlaaDoorKey
import Derived.Test.YtflhbnaocognlaaDoorCert
import Derived.Test.YtflhbnaocognlaaDoorSign
import Derived.Test.YtflhbnaocognlaaDoorSign2
import Derived.Test.YtflhbnaocognlaaDoorSgEq
import Derived.Test.YtflhbnaocognlaaDoorFoot
import Derived.Test.YtflhbnaocognlaaDoorSlot
import Derived.Test.YtflhbnaocognlaaDoorSlot2
import Derived.Test.YtflhbnaocognlaaDoorSInv
import Derived.Test.YtflhbnaocognlaaDoorCount3
import Derived.Test.YtflhbnaocognlaaDoorCntP
import Derived.Test.YtflhbnaocognlaaDoorCntC
import Derived.Test.YtflhbnaocognlaaDoorUpdP
import Derived.Test.YtflhbnaocognlaaDoorUpd
import Derived.Test.YtflhbnaocognlaaDoorUpd2
import Derived.Test.YtflhbnaocognlaaDoorTold
import Derived.Test.YtflhbnaocognlaaDoorBds
import Derived.Test.YtflhbnaocognlaaDoorLiftD
import Derived.Test.YtflhbnaocognlaaDoorLiftT
import Derived.WalkKit
import Derived.WalkSpells
import Derived.Lib.Hide
namespace Go.Proofs.YtflhbnaocognlaaDoor
open Go.ChangeShapes Go.WideShapes Go.ChangeAt Go.RowKit
set_option linter.unusedVariables false
set_option maxRecDepth 100000

theorem hasL_nil2 : hasL [] = fun _ => false := by funext t; rfl
theorem ofL_nil2 : ofL [] = fun _ => 0 := by funext t; rfl
theorem new_ce2 (w : World) :
    Calls Tryd.prog 10 #[] w fun e w' => ∃ b : Nat, e = .returned (.pointer (some ⟨b + 1, 0, none⟩)) ∧ w.heap.size ≤ b ∧ CE w' b 0 [] ∧ Below w.heap.size w w' := by
  refine (countNewE_any w).mono ?_
  rintro e w' ⟨rfl, h, hb⟩
  refine ⟨_, rfl, Nat.le_refl _, ?_, hb⟩
  unfold CE
  rw [hasL_nil2, ofL_nil2]
  exact h
theorem CE.lt_ {w : World} {b n : Nat} {ls : List Cnt} (h : CE w b n ls) : b + 1 < w.heap.size := by
  obtain ⟨D, h1, _⟩ := h
  exact h1.lt

/-! In plain words. -/
theorem upd0 {root : Int} {cs : List (Int × Int × Int)} {ls : List Cnt} {on : ByteArray} {ov : Int} {oc : ByteArray} {op oa : Int} {zn : ByteArray} {zv : Int} {zc : ByteArray} {zp za : Int} (h : updE root cs ls (on, ov, oc, op, oa) (zn, zv, zc, zp, za) = 0) :
    (certLast root cs).2 = 0 ∧ signE (certLast root cs).1 zn zv zc zp za = 0 ∧ imgE on ov oc = 0 ∧ zn.data.toList = on.data.toList ∧ ov < zv ∧ mayL ls zn zv = 0 := by
  unfold updE at h
  by_cases h1 : (certLast root cs).2 = 0
  · rw [if_pos h1] at h
    simp only at h
    by_cases h2 : signE (certLast root cs).1 zn zv zc zp za = 0
    · rw [if_pos h2] at h
      unfold upE2 at h
      simp only at h
      by_cases h3 : imgE on ov oc = 0
      · rw [if_pos h3] at h
        by_cases h4 : zn.data.toList = on.data.toList
        · rw [if_pos h4] at h
          by_cases h5 : zv ≤ ov
          · rw [if_pos h5] at h; cases h
          · rw [if_neg h5] at h
            exact ⟨h1, h2, h3, h4, by omega, h⟩
        · rw [if_neg h4] at h; cases h
      · rw [if_neg h3] at h; exact absurd h h3
    · rw [if_neg h2] at h; exact absurd h h2
  · rw [if_neg h1] at h; exact absurd h h1
theorem may0 {ls : List Cnt} {s : ByteArray} {x : Int} (h : mayL ls s x = 0) : okName s = true ∧ ¬ x < ofL ls s.data.toList := by
  unfold mayL at h
  cases hs : okName s
  · rw [hs] at h; cases h
  · rw [hs, if_pos rfl] at h
    refine ⟨rfl, fun hx => ?_⟩
    simp only [if_pos hx] at h
    split at h <;> cases h
theorem upd9 {root : Int} {cs : List (Int × Int × Int)} {ls : List Cnt} {zn : ByteArray} {zv : Int} {zc : ByteArray} {zp za : Int} (h1 : (certLast root cs).2 = 0) (h2 : signE (certLast root cs).1 zn zv zc zp za = 0) :
    updE root cs ls (zn, zv, zc, zp, za) (zn, zv, zc, zp, za) = 9 := by
  unfold updE
  rw [if_pos h1]
  simp only
  rw [if_pos h2]
  unfold upE2
  simp only
  simp only [signE_img h2, if_true, Int.le_refl]
section
variable (on : ByteArray) (ov : Int) (oc : ByteArray) (op oa : Int) (zn : ByteArray) (zv : Int) (zc : ByteArray) (zp za : Int)
def sl0 : Slts := ⟨⟨on, ov, oc, op, oa, true, 0, true⟩, noSlt, false⟩
def sl1 : Slts := ⟨⟨on, ov, oc, op, oa, true, 0, true⟩, ⟨zn, zv, zc, zp, za, true, 3, false⟩, false⟩
def sl2 : Slts := ⟨⟨on, ov, oc, op, oa, true, 0, true⟩, ⟨zn, zv, zc, zp, za, true, 2, false⟩, true⟩
def sl3 : Slts := ⟨noSlt, ⟨zn, zv, zc, zp, za, true, 0, true⟩, true⟩
theorem do0 {root : Int} {cs : List (Int × Int × Int)} {ls : List Cnt} (h : updE root cs ls (on, ov, oc, op, oa) (zn, zv, zc, zp, za) = 0) (hz : imgE zn zv zc = 0) :
    doE root cs ls (sl0 on ov oc op oa) (zn, zv, zc, zp, za) = 0 ∧ doS root cs ls (sl0 on ov oc op oa) (zn, zv, zc, zp, za) = sl1 on ov oc op oa zn zv zc zp za := by
  have e : ((sl0 on ov oc op oa).at_ (sl0 on ov oc op oa).safe).sg = (on, ov, oc, op, oa) := rfl
  unfold doE doS
  rw [e, if_pos h, if_pos h]
  unfold putE putS
  simp only
  rw [if_pos hz, if_pos hz]
  exact ⟨rfl, rfl⟩
theorem do3 {root : Int} {cs : List (Int × Int × Int)} {ls : List Cnt} (h : updE root cs ls (zn, zv, zc, zp, za) (zn, zv, zc, zp, za) = 9) : doE root cs ls (sl3 zn zv zc zp za) (zn, zv, zc, zp, za) = 9 := by
  have e : ((sl3 zn zv zc zp za).at_ (sl3 zn zv zc zp za).safe).sg = (zn, zv, zc, zp, za) := rfl
  unfold doE
  rw [e, if_neg (by rw [h]; decide), h]
theorem start1 : startS (sl1 on ov oc op oa zn zv zc zp za) = sl2 on ov oc op oa zn zv zc zp za ∧ ((sl1 on ov oc op oa zn zv zc zp za).at_ (sl1 on ov oc op oa zn zv zc zp za).pick).im = #[.string zn, .int .i64 zv, .string zc, .int .i64 zp, .int .i64 za] := ⟨rfl, rfl⟩
theorem good2 : goodE (sl2 on ov oc op oa zn zv zc zp za) = 0 ∧ goodS (sl2 on ov oc op oa zn zv zc zp za) = sl3 zn zv zc zp za := ⟨rfl, rfl⟩
end

set_option maxHeartbeats 8000000 in
theorem updateNewer_walk (w : World) (root : Int) (A : Option Addr) (cs : List (Int × Int × Int)) (c : Nat) (on : ByteArray) (ov : Int) (oc : ByteArray) (op oa : Int) (zn : ByteArray) (zv : Int) (zc : ByteArray) (zp za : Int) (v : Int)
    (ir : I64 root) (hA : CertsAt w A cs) (hcl : cs.length * 24 ≤ 140737488351232) (hcc : cs.length ≤ c) (iov : I64 ov) (h1 : on.size ≤ 140737488351232) (h2 : oc.size ≤ 140737488351232) (iop : I64 op) (ioa : I64 oa)
    (izv : I64 zv) (h3 : zn.size ≤ 140737488351232) (h4 : zc.size ≤ 140737488351232) (izp : I64 zp) (iza : I64 za) (iv : I64 v) (hg : TabTD w) :
    Calls Tryd.prog 5 #[.int .i64 root, .slice A cs.length c, .agg #[.string on, .int .i64 ov, .string oc, .int .i64 op, .int .i64 oa], .agg #[.string zn, .int .i64 zv, .string zc, .int .i64 zp, .int .i64 za], .int .i64 v] w fun e w' => e = .returned (.bool true) ∧ Below w.heap.size w w' := by
  have en := fun k w => err_neq k w
  have gn := fun o k w => err_guard_neq o k w
  have HG := Lib.hid hg.2
  have HT := Lib.hid hg.1
  have HA := Lib.hid hA
  have HO0 := Lib.hid (Box.new w 27 #[.string on, .int .i64 ov, .string oc, .int .i64 op, .int .i64 oa])
  have hz0 := Box.new (w.alloc (.cells #[.string on, .int .i64 ov, .string oc, .int .i64 op, .int .i64 oa] 27)) 27 #[.string zn, .int .i64 zv, .string zc, .int .i64 zp, .int .i64 za]
  have e2 : (w.alloc (.cells #[.string on, .int .i64 ov, .string oc, .int .i64 op, .int .i64 oa] 27)).heap.size = w.heap.size + 1 := by simp
  rw [e2] at hz0
  have HZ0 := Lib.hid hz0
  have HO00 := Lib.hid (HO0.out.alloc_ (.cells #[.string zn, .int .i64 zv, .string zc, .int .i64 zp, .int .i64 za] 27))
  have H5 : Hid (okSecret 5 = true) := Lib.hid (by decide)
  have H7 : Hid (okSecret 7 = true) := Lib.hid (by decide)
  have HI1 : Hid (imgE ⟨#[111, 115]⟩ 1 ⟨#[]⟩ = 0) := Lib.hid (by decide)
  have HI2 : Hid (imgE ⟨#[111, 115]⟩ 2 ⟨#[]⟩ = 0) := Lib.hid (by decide)
  obtain ⟨P7, hP7⟩ : ∃ P, pwI 64 7 = P := ⟨_, rfl⟩
  obtain ⟨S1, hS1⟩ : ∃ S, sealA 5 7 (imgM ⟨#[111, 115]⟩ 1 ⟨#[]⟩) = S := ⟨_, rfl⟩
  obtain ⟨S2, hS2⟩ : ∃ S, sealA 5 7 (imgM ⟨#[111, 115]⟩ 2 ⟨#[]⟩) = S := ⟨_, rfl⟩
  obtain ⟨Q, hQ⟩ : ∃ Q, pwI 64 5 = Q := ⟨_, rfl⟩
  have hs1 := signE_own H5.out H7.out HI1.out
  have hs2 := signE_own H5.out H7.out HI2.out
  rw [hQ, hP7, hS1] at hs1
  rw [hQ, hP7, hS2] at hs2
  have hcq : certLast Q [] = (Q, 0) := by rw [← hQ]; exact certLast_nil (okIn_own H5.out)
  have HU1 : Hid (updE Q [] [] (⟨#[111, 115]⟩, 1, ⟨#[]⟩, P7, S1) (⟨#[111, 115]⟩, 2, ⟨#[]⟩, P7, S2) = 0) := Lib.hid (by
    unfold updE
    rw [hcq]
    simp only [hs2, if_true]
    unfold upE2
    simp only [HI1.out, if_true]
    decide)
  have HU2 : Hid (updE Q [] [] (⟨#[111, 115]⟩, 2, ⟨#[]⟩, P7, S2) (⟨#[111, 115]⟩, 1, ⟨#[]⟩, P7, S1) = 9) := Lib.hid (by
    unfold updE
    rw [hcq]
    simp only [hs1, if_true]
    unfold upE2
    simp only [HI2.out, if_true]
    decide)
  have HM1 := Lib.hid (fun w ht => signMake_yes 5 7 ⟨#[111, 115]⟩ 1 ⟨#[]⟩ _ w (by decide) (by decide) HI1.out rfl H5.out H7.out ht)
  have HM2 := Lib.hid (fun w ht => signMake_yes 5 7 ⟨#[111, 115]⟩ 2 ⟨#[]⟩ _ w (by decide) (by decide) HI2.out rfl H5.out H7.out ht)
  rw [hP7, hS1] at HM1
  rw [hP7, hS2] at HM2
  have hpm := pubM_yes H5.out
  have hpe := pubE_yes H5.out
  rw [hQ] at hpm
  have HPM := Lib.hid hpm
  have HPE := Lib.hid hpe
  clear hA hg hz0 e2 HO0 hP7 hS1 hS2 hQ hs1 hs2 hcq hpm hpe
  go_enter Tryd.func5, Tryd.ntmps5
  go_wp2_with fail
  refine (new_ce2 _).mono ?_
  rintro e w1 ⟨b1, rfl, hbb1, hC1, hb1⟩
  have HC1 := Lib.hid hC1
  have HO1 := Lib.hid (HO00.out.below hb1)
  have HZ1 := Lib.hid (HZ0.out.below hb1)
  have hbw1 : Below w.heap.size w w1 := grow_step (grow_alloc (grow_alloc (grow_refl _) _) _) hb1
  clear hC1 hb1 hbb1 HO00 HZ0
  go_wp2_with (go_at_call 7; refine (public_any _ _).mono ?_; rintro e w' ⟨rfl, rfl⟩; rw [HPM.out, HPE.out])
  refine (HM1.out _ (HT.out.below hbw1)).mono ?_
  rintro e w2 ⟨rfl, hb2⟩
  have HC2 := Lib.hid ((HC1.out.below hb2).below (grow_alloc (grow_refl _) (.cells #[.string ⟨#[111, 115]⟩, .int .i64 1, .string ⟨#[]⟩, .int .i64 P7, .int .i64 S1] 27)))
  have HO2 := Lib.hid ((HO1.out.below hb2).alloc_ (.cells #[.string ⟨#[111, 115]⟩, .int .i64 1, .string ⟨#[]⟩, .int .i64 P7, .int .i64 S1] 27))
  have HZ2 := Lib.hid ((HZ1.out.below hb2).alloc_ (.cells #[.string ⟨#[111, 115]⟩, .int .i64 1, .string ⟨#[]⟩, .int .i64 P7, .int .i64 S1] 27))
  have HX2 := Lib.hid (Box.new w2 27 #[.string ⟨#[111, 115]⟩, .int .i64 1, .string ⟨#[]⟩, .int .i64 P7, .int .i64 S1])
  have hbw2 : Below w.heap.size w (w2.alloc (.cells #[.string ⟨#[111, 115]⟩, .int .i64 1, .string ⟨#[]⟩, .int .i64 P7, .int .i64 S1] 27)) := grow_alloc (grow_step hbw1 hb2) _
  clear hb2 HC1 HO1 HZ1 hbw1
  go_wp2_with fail
  refine (HM2.out _ (HT.out.below hbw2)).mono ?_
  rintro e w3 ⟨rfl, hb3⟩
  have HC3 := Lib.hid ((HC2.out.below hb3).below (grow_alloc (grow_refl _) (.cells #[.string ⟨#[111, 115]⟩, .int .i64 2, .string ⟨#[]⟩, .int .i64 P7, .int .i64 S2] 27)))
  have HO3 := Lib.hid ((HO2.out.below hb3).alloc_ (.cells #[.string ⟨#[111, 115]⟩, .int .i64 2, .string ⟨#[]⟩, .int .i64 P7, .int .i64 S2] 27))
  have HZ3 := Lib.hid ((HZ2.out.below hb3).alloc_ (.cells #[.string ⟨#[111, 115]⟩, .int .i64 2, .string ⟨#[]⟩, .int .i64 P7, .int .i64 S2] 27))
  have HX3 := Lib.hid ((HX2.out.below hb3).alloc_ (.cells #[.string ⟨#[111, 115]⟩, .int .i64 2, .string ⟨#[]⟩, .int .i64 P7, .int .i64 S2] 27))
  have HY3 := Lib.hid (Box.new w3 27 #[.string ⟨#[111, 115]⟩, .int .i64 2, .string ⟨#[]⟩, .int .i64 P7, .int .i64 S2])
  have hbw3 : Below w.heap.size w (w3.alloc (.cells #[.string ⟨#[111, 115]⟩, .int .i64 2, .string ⟨#[]⟩, .int .i64 P7, .int .i64 S2] 27)) := grow_alloc (grow_step hbw2 hb3) _
  have cX := HX3.out.cell
  have lX := HX3.out.lt
  clear hb3 HC2 HO2 HZ2 HX2 hbw2
  go_wp2_with fail
  refine (updMay_any Q none 0 [] [] ⟨#[111, 115]⟩ 1 ⟨#[]⟩ P7 S1 ⟨#[111, 115]⟩ 2 ⟨#[]⟩ P7 S2 b1 0 _ (CertsAt.nil_ _ _) (by simp) HC3.out (by decide) (by decide) (by decide) (by decide) (HT.out.below hbw3)).mono ?_
  rintro e w4 ⟨rfl, hb4⟩
  rw [HU1.out]
  have HC4 := Lib.hid (HC3.out.below hb4)
  have HO4 := Lib.hid (HO3.out.below hb4)
  have HZ4 := Lib.hid (HZ3.out.below hb4)
  have hbw4 : Below w.heap.size w w4 := grow_step hbw3 hb4
  have cX := (HX3.out.below hb4).cell
  have lX := (HX3.out.below hb4).lt
  have cY := (HY3.out.below hb4).cell
  have lY := (HY3.out.below hb4).lt
  clear hb4 HC3 HO3 HZ3 HX3 HY3 hbw3
  go_wp2_with fail
  refine (updMay_any Q none 0 [] [] ⟨#[111, 115]⟩ 2 ⟨#[]⟩ P7 S2 ⟨#[111, 115]⟩ 1 ⟨#[]⟩ P7 S1 b1 0 _ (CertsAt.nil_ _ _) (by simp) HC4.out (by decide) (by decide) (by decide) (by decide) (HT.out.below hbw4)).mono ?_
  rintro e w5 ⟨rfl, hb5⟩
  rw [HU2.out]
  have HO5 := Lib.hid (HO4.out.below hb5)
  have HZ5 := Lib.hid (HZ4.out.below hb5)
  have hbw5 : Below w.heap.size w w5 := grow_step hbw4 hb5
  clear hb5 HC4 HO4 HZ4 hbw4 cX lX cY lY
  go_wp2_with fail
  refine (error_any 9 9 _ (HG.out.below hbw5) (i64_small (by decide) (by decide))).mono ?_
  rintro e w6 ⟨rfl, hb6⟩
  rw [show ((9 : Int) == 9) = true from rfl]
  have HO6 := Lib.hid (HO5.out.below hb6)
  have HZ6 := Lib.hid (HZ5.out.below hb6)
  have hbw6 : Below w.heap.size w w6 := grow_step hbw5 hb6
  clear hb6 HO5 HZ5 hbw5
  go_wp2_with fail
  refine (new_ce2 _).mono ?_
  rintro e w7 ⟨b, rfl, hbb, hC7, hb7⟩
  have HC7 := Lib.hid hC7
  have HO7 := Lib.hid (HO6.out.below hb7)
  have HZ7 := Lib.hid (HZ6.out.below hb7)
  have hbw7 : Below w.heap.size w w7 := grow_step hbw6 hb7
  have hob : w.heap.size ≠ b := by have := HO6.out.lt; omega
  have hzb : w.heap.size + 1 ≠ b := by have := HZ6.out.lt; omega
  have hwb : w.heap.size ≤ b := by have := HO6.out.lt; omega
  have cZ := HZ7.out.cell
  have lZ := HZ7.out.lt
  clear hC7 hb7 hbb HO6 HZ6 hbw6
  go_wp2_with fail
  refine (cRaise_any b 0 [] zn v _ HC7.out h3 (by decide) (by simp)).mono ?_
  rintro e w8 ⟨rfl, ⟨n', hn', hC8⟩, hk8⟩
  obtain ⟨RB, hRB⟩ : ∃ x, raiseB [] zn v = x := ⟨_, rfl⟩
  obtain ⟨RE, hRE⟩ : ∃ x, raiseE [] zn v = x := ⟨_, rfl⟩
  obtain ⟨ls, hls⟩ : ∃ x, raiseL [] zn v = x := ⟨_, rfl⟩
  rw [hRB, hRE]
  rw [hls] at hC8
  have HC8 := Lib.hid hC8
  have HO8 := Lib.hid (HO7.out.but hk8 hob)
  have HZ8 := Lib.hid (HZ7.out.but hk8 hzb)
  have hbw8 : Below w.heap.size w w8 := hbw7.trans (hk8.below hbw7.size (by intro j h; have : j = b := h; omega))
  have cO := HO8.out.cell
  have lO := HO8.out.lt
  have cZ := HZ8.out.cell
  have lZ := HZ8.out.lt
  clear hRB hRE hls hC8 hk8 HC7 HO7 HZ7 hbw7
  go_wp2_with fail
  refine (updMay_any root A c cs ls on ov oc op oa zn zv zc zp za b n' _ (HA.out.below hbw8) (by omega) HC8.out h1 h2 h3 h4 (HT.out.below hbw8)).mono ?_
  rintro e w9 ⟨rfl, hb9⟩
  obtain ⟨U, hU⟩ : ∃ U, updE root cs ls (on, ov, oc, op, oa) (zn, zv, zc, zp, za) = U := ⟨_, rfl⟩
  rw [hU]
  have HC9 := Lib.hid (HC8.out.below hb9)
  have HO9 := Lib.hid (HO8.out.below hb9)
  have HZ9 := Lib.hid (HZ8.out.below hb9)
  have hbw9 : Below w.heap.size w w9 := grow_step hbw8 hb9
  clear hb9 HC8 HO8 HZ8 hbw8 cO lO cZ lZ
  by_cases h0 : U = 0
  rotate_left
  · have t : (U != 0) = true := by simp [h0]
    clear hU
    go_wp2_with fail
    go_ret
    exact ⟨rfl, hbw9⟩
  subst h0
  obtain ⟨k1, k2, k3, k4, k5, k6⟩ := upd0 hU
  obtain ⟨k7, k8⟩ := may0 k6
  have hzi := signE_img k2
  have HNE : Hid (newE zn zv zc on ov oc = 0 ∧ newB zn zv zc on ov oc = true) := Lib.hid (by
    have e : newE zn zv zc on ov oc = 0 := by unfold newE; rw [if_pos hzi, if_pos k3, if_pos k4]
    exact ⟨e, by unfold newB; rw [e]; simp; exact k5⟩)
  have HD0 := Lib.hid (do0 on ov oc op oa zn zv zc zp za hU hzi)
  have HD3 := Lib.hid (do3 zn zv zc zp za (upd9 (ls := ls) k1 k2))
  have HIO := Lib.hid k3
  have HLA := Lib.hid (fun w h => last_any root A c cs w h (by omega))
  have HLE := Lib.hid (fun w h => cLeast_any b n' ls zn w h h3)
  rw [k7] at HLE
  simp only [if_true] at HLE
  obtain ⟨V, hV⟩ : ∃ V, ofL ls zn.data.toList = V := ⟨_, rfl⟩
  rw [hV] at HLE k8
  obtain ⟨⟨q, E1⟩, hq⟩ : ∃ t, certLast root cs = t := ⟨_, rfl⟩
  rw [hq] at HLA k1 k2
  simp only at k1 k2
  subst k1
  have HSC := Lib.hid (fun w ht => signCheck_any q zn zv zc zp za w (by omega) (by omega) ht)
  rw [k2] at HSC
  have q1 := fun w => neSg zn zv zc zp za h3 h4 izv izp iza w
  have q2 := fun o q w => guardSg (.string zn) (.int .i64 zv) (.string zc) (.int .i64 zp) (.int .i64 za) (.string zn) (.int .i64 zv) (.string zc) (.int .i64 zp) (.int .i64 za) .neq o q w
  have cO := HO9.out.cell
  have lO := HO9.out.lt
  have cZ := HZ9.out.cell
  have lZ := HZ9.out.lt
  clear hU k2 k3 k4 k5 k6 k7 hzi hV hq
  go_wp2_with fail
  refine (imgNewer_any zn zv zc on ov oc _ (by omega) (by omega) (by omega) (by omega)).mono ?_
  rintro e w10 ⟨rfl, hb10⟩
  rw [HNE.out.1, HNE.out.2]
  have HC10 := Lib.hid (HC9.out.below hb10)
  have HO10 := Lib.hid (HO9.out.below hb10)
  have HZ10 := Lib.hid (HZ9.out.below hb10)
  have hbw10 : Below w.heap.size w w10 := grow_step hbw9 hb10
  clear hb10 HC9 HO9 HZ9 hbw9 cO lO cZ lZ
  go_wp2_with fail
  refine (HLA.out _ (HA.out.below hbw10)).mono ?_
  rintro e w11 ⟨rfl, hb11⟩
  simp only
  have HC11 := Lib.hid (HC10.out.below hb11)
  have HO11 := Lib.hid (HO10.out.below hb11)
  have HZ11 := Lib.hid (HZ10.out.below hb11)
  have hbw11 : Below w.heap.size w w11 := grow_step hbw10 hb11
  have cZ := HZ11.out.cell
  have lZ := HZ11.out.lt
  clear hb11 HC10 HO10 HZ10 hbw10
  go_wp2_with fail
  refine (HLE.out _ HC11.out).mono ?_
  rintro e w12 ⟨rfl, hb12⟩
  have HC12 := Lib.hid (HC11.out.below hb12)
  have HO12 := Lib.hid (HO11.out.below hb12)
  have HZ12 := Lib.hid (HZ11.out.below hb12)
  have hbw12 : Below w.heap.size w w12 := grow_step hbw11 hb12
  have cZ := HZ12.out.cell
  have lZ := HZ12.out.lt
  clear hb12 HC11 HO11 HZ11 hbw11
  go_wp2_with fail
  refine (HSC.out _ (HT.out.below hbw12)).mono ?_
  rintro e w13 ⟨rfl, hb13⟩
  have HC13 := Lib.hid (HC12.out.below hb13)
  have HO13 := Lib.hid (HO12.out.below hb13)
  have HZ13 := Lib.hid (HZ12.out.below hb13)
  have hbw13 : Below w.heap.size w w13 := grow_step hbw12 hb13
  have cZ := HZ13.out.cell
  have lZ := HZ13.out.lt
  have cO := HO13.out.cell
  have lO := HO13.out.lt
  clear hb13 HC12 HO12 HZ12 hbw12
  go_wp2_with fail
  refine (slotNew_yes on ov oc op oa _ (by omega) (by omega) HIO.out).mono ?_
  rintro e w14 ⟨g, rfl, hB14, hg14, hb14⟩
  have HB14 : Hid (Box w14 g 98 (sl0 on ov oc op oa).cs) := Lib.hid hB14
  have HC14 := Lib.hid (HC13.out.below hb14)
  have HO14 := Lib.hid (HO13.out.below hb14)
  have HZ14 := Lib.hid (HZ13.out.below hb14)
  have hbw14 : Below w.heap.size w w14 := grow_step hbw13 hb14
  have hbg1 : b ≠ g := by have := HC13.out.lt_; omega
  have hbg2 : b + 1 ≠ g := by have := HC13.out.lt_; omega
  have hzg : w.heap.size + 1 ≠ g := by have := HZ13.out.lt; omega
  have hwg : w.heap.size ≤ g := by have := HZ13.out.lt; omega
  have cZ := HZ14.out.cell
  have lZ := HZ14.out.lt
  clear hB14 hg14 hb14 HC13 HO13 HZ13 hbw13 cO lO
  go_wp2_with fail
  refine (updDo_any root A c cs ls zn zv zc zp za g (sl0 on ov oc op oa) b n' _ (HA.out.below hbw14) (by omega) HC14.out HB14.out (Inv.first h1 h2 iov iop ioa) h3 h4 (HT.out.below hbw14)).mono ?_
  rintro e w15 ⟨rfl, hB15, hk15⟩
  rw [HD0.out.1]
  rw [HD0.out.2] at hB15
  have HB15 := Lib.hid hB15
  have HC15 := Lib.hid (HC14.out.but hk15 hbg1 hbg2)
  have HZ15 := Lib.hid (HZ14.out.but hk15 hzg)
  have hbw15 : Below w.heap.size w w15 := hbw14.trans (hk15.below hbw14.size (by intro j h; have : j = g := h; omega))
  have hinv1 : Inv (sl1 on ov oc op oa zn zv zc zp za) := by have h := (Inv.first h1 h2 iov iop ioa).doS root cs ls (z := (zn, zv, zc, zp, za)) h3 h4 izv izp iza; rw [← HD0.out.2]; exact h
  have HI1_ := Lib.hid hinv1
  clear hB15 hk15 HB14 HC14 HO14 HZ14 hbw14 cZ lZ hinv1
  go_wp2_with fail
  refine (startC g (sl1 on ov oc op oa zn zv zc zp za) _ HB15.out HI1_.out).mono ?_
  rintro e w16 ⟨rfl, hB16, hk16⟩
  rw [(start1 on ov oc op oa zn zv zc zp za).2]
  rw [(start1 on ov oc op oa zn zv zc zp za).1] at hB16
  have HB16 := Lib.hid (hB16.alloc_ (.cells #[.string zn, .int .i64 zv, .string zc, .int .i64 zp, .int .i64 za] 27))
  have HC16 := Lib.hid ((HC15.out.but hk16 hbg1 hbg2).below (grow_alloc (grow_refl _) (.cells #[.string zn, .int .i64 zv, .string zc, .int .i64 zp, .int .i64 za] 27)))
  have HZ16 := Lib.hid ((HZ15.out.but hk16 hzg).alloc_ (.cells #[.string zn, .int .i64 zv, .string zc, .int .i64 zp, .int .i64 za] 27))
  have hbw16 : Below w.heap.size w (w16.alloc (.cells #[.string zn, .int .i64 zv, .string zc, .int .i64 zp, .int .i64 za] 27)) := grow_alloc (hbw15.trans (hk16.below hbw15.size (by intro j h; have : j = g := h; omega))) _
  have cZ := HZ16.out.cell
  have lZ := HZ16.out.lt
  clear hB16 hk16 HB15 HC15 HZ15 hbw15
  go_wp2_with fail
  refine (goodC g (sl2 on ov oc op oa zn zv zc zp za) _ HB16.out).mono ?_
  rintro e w17 ⟨rfl, hB17, hk17⟩
  rw [(good2 on ov oc op oa zn zv zc zp za).1]
  rw [(good2 on ov oc op oa zn zv zc zp za).2] at hB17
  have HB17 := Lib.hid hB17
  have HC17 := Lib.hid (HC16.out.but hk17 hbg1 hbg2)
  have HZ17 := Lib.hid (HZ16.out.but hk17 hzg)
  have hbw17 : Below w.heap.size w w17 := hbw16.trans (hk17.below hbw16.size (by intro j h; have : j = g := h; omega))
  have hinv3 : Inv (sl3 zn zv zc zp za) := by
    have h := HI1_.out.startS.goodS
    rw [(start1 on ov oc op oa zn zv zc zp za).1, (good2 on ov oc op oa zn zv zc zp za).2] at h
    exact h
  have cZ := HZ17.out.cell
  have lZ := HZ17.out.lt
  clear hB17 hk17 HB16 HC16 HZ16 hbw16
  go_wp2_with fail
  refine (updDo_any root A c cs ls zn zv zc zp za g (sl3 zn zv zc zp za) b n' _ (HA.out.below hbw17) (by omega) HC17.out HB17.out hinv3 h3 h4 (HT.out.below hbw17)).mono ?_
  rintro e w18 ⟨rfl, _, hk18⟩
  rw [HD3.out]
  have hbw18 : Below w.heap.size w w18 := hbw17.trans (hk18.below hbw17.size (by intro j h; have : j = g := h; omega))
  go_wp2_with fail
  refine (error_any 9 9 _ (HG.out.below hbw18) (i64_small (by decide) (by decide))).mono ?_
  rintro e w19 ⟨rfl, hb19⟩
  rw [show ((9 : Int) == 9) = true from rfl]
  go_wp2_with fail
  go_ret
  exact ⟨rfl, grow_step hbw18 hb19⟩

set_option maxRecDepth 100000 in
theorem updateNewer_walks (H : Type) (enc : TypeId × Value → H) : WalksD enc Tryd.prog TabTD 5 Tryd.f5 := by
  intro W base args ds p hval hA hlt hsz hsh hdoor
  have hsz0 := hsz
  rw [Tryd.params5] at hA hval
  obtain ⟨v0, vs0, d0, ds0, p0, q0, hargs, rfl, rfl, h0, r0⟩ := trodAll_cons hA
  obtain ⟨v1, vs1, d1, ds1, p1, q1, rfl, rfl, rfl, h1, r1⟩ := trodAll_cons r0
  obtain ⟨v2, vs2, d2, ds2, p2, q2, rfl, rfl, rfl, h2, r2⟩ := trodAll_cons r1
  obtain ⟨v3, vs3, d3, ds3, p3, q3, rfl, rfl, rfl, h3, r3⟩ := trodAll_cons r2
  obtain ⟨v4, vs4, d4, ds4, p4, q4, rfl, rfl, rfl, h4, r4⟩ := trodAll_cons r3
  obtain ⟨rfl, rfl, rfl⟩ := trodAll_nil r4
  obtain rfl : args = #[v0, v1, v2, v3, v4] := by cases args; simp_all
  obtain ⟨a0, rfl, w0⟩ := op_int (hval 0 3 v0 rfl rfl) h0
  obtain ⟨A1, a1, c1, rfl, w1, z1, y1⟩ := op_certs (hval 1 53 v1 rfl rfl) h1 (fun x hx => hlt x (by simp [hx])) (w_each hsz 1 53 _ (by rw [Tryd.params5]; rfl) rfl)
  obtain ⟨a2, b2, c2, p2_, q2_, rfl, w2, u2, z2, y2, t2⟩ := op_signed (hval 2 27 v2 rfl rfl) h2 (w_each hsz 2 27 _ (by rw [Tryd.params5]; rfl) rfl)
  obtain ⟨a3, b3, c3, p3_, q3_, rfl, w3, u3, z3, y3, t3⟩ := op_signed (hval 3 27 v3 rfl rfl) h3 (w_each hsz 3 27 _ (by rw [Tryd.params5]; rfl) rfl)
  obtain ⟨a4, rfl, w4⟩ := op_int (hval 4 3 v4 rfl rfl) h4
  exact updateNewer_walk W a0 A1 a1 c1 a2 b2 c2 p2_ q2_ a3 b3 c3 p3_ q3_ a4 w0 w1 z1 y1 w2 u2 z2 y2 t2 w3 u3 z3 y3 t3 w4 hdoor

set_option maxRecDepth 100000 in
theorem updateNewer_lifted (os : Os) (started : os.Started) (H : Type) (enc : TypeId × Value → H) :
    ReturnsInHanded {} Tryd.checked os 5 .any (fun w args => (Rows.updateNewerSpec.pre enc Tryd.checked.prog Tryd.f5 [] false w args ∧ laidMetH Tryd.checked.prog LaidTD w) ∧ sizedMet enc Tryd.checked.prog Tryd.f5 (OpenSpec.ofChange Rows.updateNewerSpec) false w args) (Rows.updateNewerSpec.post enc Tryd.checked.prog Tryd.f5 false true false false) :=
  returns_of_walkD (C := Tryd.checked) (s := Rows.updateNewerSpec) (L := LaidTD) (D := TabTD) own started (by kernel_rfl) Tryd.func5
    (ChangeSpec.witness_at (enc := enc) (C := Tryd.checked) (os := os) (X := fun w _ => laidMetH Tryd.prog LaidTD w) false (laidWorldTD os) #[.int .i64 0, .slice none 0 0, .agg #[.string ⟨#[]⟩, .int .i64 0, .string ⟨#[]⟩, .int .i64 0, .int .i64 0], .agg #[.string ⟨#[]⟩, .int .i64 0, .string ⟨#[]⟩, .int .i64 0, .int .i64 0], .int .i64 0] 8 rfl (by kernel_rfl) (by kernel_rfl) (by kernel_rfl) (by kernel_rfl) (by kernel_rfl) (laidWorldTD_met os _))
    (fun W h => tabTD_of_laid h) laidOut (by kernel_rfl) rfl Tryd.underlying4 rfl (fun ds h => by match ds, h with | [_, _, _, _, _], _ => rfl) (updateNewer_walks H enc)

theorem updateNewer_bare : Rows.UpdateNewerSaid :=
  OpenClaim.holds_of_wide 5 Tryd.f5 rfl rfl rfl rfl rfl rfl rfl ⟨rfl, rfl, rfl, rfl, rfl⟩ rfl rfl rfl rfl rfl (by kernel_rfl) Tryd.func5 (by kernel_rfl)
    (of_decide_eq_true (by kernel_rfl)) (by unfold Func.isWrapper; rw [if_neg (of_decide_eq_false (by kernel_rfl))]; exact ⟨rfl, rfl⟩)
    (fun os started H enc _ => updateNewer_lifted os started H enc)

theorem updateNewer_holds : Rows.UpdateNewerCardSaid :=
  Claim7.holds_tied_plain_at .later [] [.data, .data, .data, .handle] true Rows.updateNewerCard.stood.harness true
    updateNewer_bare (fun _ h => by cases h) (by kernel_rfl) (fun _ h => by cases h) updateNewer_row_tie rfl ⟨rfl, rfl⟩ (by kernel_rfl) rfl
    (fun f fn hf hfn => by
      obtain rfl : f = 5 := Option.some.inj ((show Tryd.prog.funcNamed "bootstair/stairlaw2.UpdateNewer" = some 5 by kernel_rfl).symm.trans hf) |>.symm
      obtain rfl : fn = Tryd.f5 := (Option.some.inj (Tryd.func5.symm.trans hfn)).symm
      exact ⟨by kernel_rfl, fun j t ht => by
        have hm : t ∈ Tryd.f5.params.toList := by simpa using Array.mem_of_getElem? ht
        have hall : (Tryd.f5.params.toList.all fun u => !Tryd.prog.wantsStandIn u) = true := by kernel_rfl
        exact (show Tryd.prog.wantsStandIn t = false by simpa using List.all_eq_true.1 hall t hm)⟩)
    (by kernel_rfl)

end Go.Proofs.YtflhbnaocognlaaDoor
