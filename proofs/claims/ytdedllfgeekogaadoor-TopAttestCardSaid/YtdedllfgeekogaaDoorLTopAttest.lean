/- TopAttest: a row of images, measured and started, quoted for who asked, by rules of just what they come to, is given the secret; and with one image another one, that comes to another bank, not. The package variables that the text lays hold what it lays. -/
import Derived.Test.YtdedllfgeekogaaDoorRows
import Derived.Test.YtdedllfgeekogaaDoorOpen
import Derived.Test.YtdedllfgeekogaaDoorOpI
import Derived.Test.YtdedllfgeekogaaDoorOpIm
import Derived.Test.YtdedllfgeekogaaDoorOpR
import Derived.Test.YtdedllfgeekogaaDoorNum
import Derived.Test.YtdedllfgeekogaaDoorBase
import Derived.Test.YtdedllfgeekogaaDoorApp
import Derived.Test.YtdedllfgeekogaaDoorFoot
import Derived.Test.YtdedllfgeekogaaDoorMeas
import Derived.Test.YtdedllfgeekogaaDoorKey
import Derived.Test.YtdedllfgeekogaaDoorCert
import Derived.Test.YtdedllfgeekogaaDoorSeal
import Derived.Test.YtdedllfgeekogaaDoorBds
import Derived.Test.YtdedllfgeekogaaDoorBank
import Derived.Test.YtdedllfgeekogaaDoorEvent
import Derived.Test.YtdedllfgeekogaaDoorQuote
import Derived.Test.YtdedllfgeekogaaDoorJdPlain
import Derived.Test.YtdedllfgeekogaaDoorRule
import Derived.Test.YtdedllfgeekogaaDoorJudge
import Derived.Test.YtdedllfgeekogaaDoorImg
import Derived.Test.YtdedllfgeekogaaDoorImg2
import Derived.Test.YtdedllfgeekogaaDoorSign
import Derived.Test.YtdedllfgeekogaaDoorSign2
import Derived.Test.YtdedllfgeekogaaDoorUpdP
import Derived.Test.YtdedllfgeekogaaDoorEq8
import Derived.Test.YtdedllfgeekogaaDoorBootP
import Derived.Test.YtdedllfgeekogaaDoorBoot
import Derived.Test.YtdedllfgeekogaaDoorBootM
import Derived.Test.YtdedllfgeekogaaDoorAtt
import Derived.Test.YtdedllfgeekogaaDoorKeep
import Derived.Test.YtdedllfgeekogaaDoorTop
import Derived.Test.YtdedllfgeekogaaDoorTold
import Derived.Test.YtdedllfgeekogaaDoorLiftD
import Derived.Test.YtdedllfgeekogaaDoorLiftT
import Derived.WalkKit
import Derived.WalkSpells
import Derived.Lib.Hide
import Derived.Deep.DeepCutAuto
import Derived.Deep.CutBlock
import Derived.Deep.CutRange
import Derived.Deep.QuietTactic
import Derived.BigQuiet
namespace Go.Proofs.YtdedllfgeekogaaDoor
open Go.ChangeShapes Go.WideShapes Go.ChangeAt Go.RowKit
set_option linter.unusedVariables false
set_option linter.unusedSimpArgs false
set_option maxRecDepth 100000

def RowOk (Q : Int) (ss : List Sgn) : Prop := ∀ i, i < ss.length → sgX (ss.getD i noSgn) = 0 ∧ sgC Q (ss.getD i noSgn) = 0
theorem RowOk.nil_ (Q : Int) : RowOk Q [] := fun i hi => absurd hi (by simp)
theorem RowOk.snoc {Q : Int} {ss : List Sgn} (h : RowOk Q ss) {z : Sgn} (h1 : sgX z = 0) (h2 : sgC Q z = 0) : RowOk Q (ss ++ [z]) := fun i hi => by
  rw [List.length_append, List.length_singleton] at hi
  by_cases hlt : i < ss.length
  · have e : (ss ++ [z]).getD i noSgn = ss.getD i noSgn := by rw [List.getD_eq_getElem?_getD, List.getD_eq_getElem?_getD, List.getElem?_append_left hlt]
    rw [e]; exact h i hlt
  · obtain rfl : i = ss.length := by omega
    have e : (ss ++ [z]).getD ss.length noSgn = z := by rw [List.getD_eq_getElem?_getD, List.getElem?_append_right (Nat.le_refl _), Nat.sub_self]; rfl
    rw [e]; exact ⟨h1, h2⟩
theorem RowOk.set {Q : Int} {ss : List Sgn} (h : RowOk Q ss) {z : Sgn} (h1 : sgX z = 0) (h2 : sgC Q z = 0) (k : Nat) : RowOk Q (ss.set k z) := fun i hi => by
  rw [List.length_set] at hi
  by_cases hik : k = i
  · subst hik
    have e : (ss.set k z).getD k noSgn = z := by rw [List.getD_eq_getElem?_getD, List.getElem?_set_self hi]; rfl
    rw [e]; exact ⟨h1, h2⟩
  · have e : (ss.set k z).getD i noSgn = ss.getD i noSgn := by rw [List.getD_eq_getElem?_getD, List.getD_eq_getElem?_getD, List.getElem?_set_ne hik]
    rw [e]; exact h i hi
theorem RowOk.small {Q : Int} {ss : List Sgn} (h : RowOk Q ss) : ∀ i, i < ss.length → (ss.getD i noSgn).1.size ≤ 140737488351232 ∧ (ss.getD i noSgn).2.2.1.size ≤ 140737488351232 := fun i hi => by
  obtain ⟨_, _, _, h1, h2, _⟩ := imgE_ok (h i hi).1
  omega
theorem RowOk.boot {Q : Int} {ss : List Sgn} (h : RowOk Q ss) (hq : okIn Q = true) (h8 : ss.length ≤ 8) : bootE Q ss = 0 := bootE_mk hq h8 (fun i hi => (h i hi).1)
theorem mk_zeroA {x k n m : Int} {b : List Int} (hx : okSecret x = true) (hk : okSecret k = true) (hb : b.all okM = true) (hm : okMask m = true) (hn : okM n = true) : mkE x k n m b = 0 := by
  have hd : digE b m = 0 := by unfold digE; rw [hb, hm]; rfl
  unfold mkE
  rw [if_pos hn, if_pos hd]
  unfold sgE okSign
  rw [hx, hk, rowM_ok]; rfl
theorem mk_badA {x k n m : Int} {b : List Int} (hk : okSecret k = false) (hb : b.all okM = true) (hm : okMask m = true) (hn : okM n = true) : mkE x k n m b = 1 := by
  have hd : digE b m = 0 := by unfold digE; rw [hb, hm]; rfl
  unfold mkE
  rw [if_pos hn, if_pos hd]
  unfold sgE okSign
  rw [hk, Bool.and_false]; rfl
theorem give_zero {x k n : Int} {es : List (Int × Int)} {rs : List (Int × List Int)} {b : List Int} (hm : mkE x k n 255 b = 0) (he : evE es = 0) (hb : evBank es = b) (hr : rulesE rs = 0) (hak : askedB 255 rs = true) :
    ∃ d p a, mkV x k n 255 b = (n, 255, d, p, a) ∧ sureE (pwI 64 x) n 255 d p a n es rs = if fitM rs b = true then 0 else 6 := by
  subst hb
  refine ⟨_, _, _, (make_ok hm).2.2.2.2.2.1, ?_⟩
  rw [sure_of hm he rfl rfl, if_pos hr, if_pos hak]
theorem ownC_le {w : World} {base : Nat} {e : TypeId} {size : Nat} {A : Option Addr} {c n : Nat} {cs : List Value} (h : OwnC w base e size A c n cs) : n ≤ c := by
  rcases Nat.eq_zero_or_pos n with h0 | h0
  · omega
  · rcases h.2 with ⟨_, h1⟩ | ⟨g, cap, cur, hv, _, _, h1, _⟩
    · omega
    · injection hv with _ _ hv
      subst hv
      exact h1
theorem beq_bank (a b : List Int) (c : Bool) (h : c = true ↔ a = b) : ((a == b) == c) = true := by
  cases c
  · have : ¬ a = b := fun e => by have := h.2 e; cases this
    simp [this]
  · have : a = b := h.1 rfl
    simp [this]

set_option maxHeartbeats 8000000 in
theorem topAttest_walk (w : World) (x k : Int) (A0 : Option Addr) (im : List Img3) (c0 : Nat) (s z i : Int) (on : ByteArray) (ov : Int) (oc : ByteArray)
    (ix : I64 x) (ik : I64 k) (hI : ImgsAt w A0 im) (hiz : im.length * 40 ≤ 140737488351232) (hic : im.length ≤ c0) (him : ∀ i, i < im.length → (im.getD i noImg).1.size ≤ 140737488351232 ∧ (im.getD i noImg).2.2.size ≤ 140737488351232 ∧ I64 (im.getD i noImg).2.1)
    (js : I64 s) (jz : I64 z) (ji : I64 i) (iov : I64 ov) (hon : on.size ≤ 140737488351232) (hoc : oc.size ≤ 140737488351232) (hg : TabT w) :
    Calls Tryd.prog 3 #[.int .i64 x, .int .i64 k, .slice A0 im.length c0, .int .i64 s, .int .i64 z, .int .i64 i, .agg #[.string on, .int .i64 ov, .string oc]] w fun e w' => e = .returned (.bool true) ∧ Below w.heap.size w w' := by
  have en := fun k w => err_neq k w
  have ee := fun k w => err_eql k w
  have gn := fun o k w => err_guard_neq o k w
  have ge := fun o k w => err_guard_eql o k w
  obtain ⟨W, hW⟩ : ∃ W, w.alloc (.cells #[.string on, .int .i64 ov, .string oc] 24) = W := ⟨_, rfl⟩
  have hb0 : Below w.heap.size w W := by rw [← hW]; exact grow_alloc (grow_refl _) _
  have HO := Lib.hid (show Box W w.heap.size 24 #[.string on, .int .i64 ov, .string oc] from by rw [← hW]; exact Box.new w 24 _)
  have hsz : w.heap.size < W.heap.size := by rw [← hW]; simp
  have HT := Lib.hid (hg.below hb0)
  have HI := Lib.hid (hI.below hb0)
  have HIM := Lib.hid him
  have HB0 := Lib.hid hb0
  clear hg hI him hb0
  go_enter Tryd.func3, Tryd.ntmps3
  go_wp2_with fail
  clear hW
  refine (one_any _ HT.out).mono ?_
  rintro e w1 ⟨rfl, hb1⟩
  cases hx : okSecret x
  · have HP : Hid (pubM x = 0 ∧ pubE x = 1) := Lib.hid ⟨pubM_no hx, pubE_no hx⟩
    go_wp2_with (go_at_call 8; refine (public_any _ _).mono ?_; rintro e w' ⟨rfl, rfl⟩; rw [HP.out.1, HP.out.2])
    go_ret
    exact ⟨rfl, grow_step HB0.out hb1⟩
  obtain ⟨Q, hQ⟩ : ∃ Q, pwI 64 x = Q := ⟨_, rfl⟩
  have HP : Hid (pubM x = Q ∧ pubE x = 0) := Lib.hid ⟨by rw [pubM_yes hx, hQ], pubE_yes hx⟩
  have HQI : Hid (okIn Q = true) := Lib.hid (by rw [← hQ]; exact okIn_own hx)
  have HQQ := Lib.hid hQ
  have HX := Lib.hid hx
  clear hQ hx
  go_upto_block 0 with (go_at_call 8; refine (public_any _ _).mono ?_; rintro e w' ⟨rfl, rfl⟩; rw [HP.out.1, HP.out.2])
  go_cut [18] from 19 to 74 (fun row wx => ∃ (A1 : Option Addr) (c1 n1 : Nat) (ss : List Sgn), row = .slice A1 n1 c1 ∧ Hid (n1 = ss.length) ∧ ss.length ≤ 8 ∧ Hid (OwnC wx W.heap.size 34 5 A1 c1 n1 (sgCells ss)) ∧ Hid (RowOk Q ss) ∧ Below W.heap.size W wx)
  case first =>
    go_wp2_with fail
    go_loopw [18, 19, 20, 21] (fun row j _ _ wr => ∃ (A1 : Option Addr) (c1 n1 jj : Nat) (ss : List Sgn), row = .slice A1 n1 c1 ∧ j = .int .i64 jj ∧ jj ≤ im.length ∧ jj ≤ 8 ∧ Hid (n1 = ss.length) ∧ Hid (ss.length = jj) ∧ Hid (OwnC wr W.heap.size 34 5 A1 c1 n1 (sgCells ss)) ∧ Hid (RowOk Q ss) ∧ Below W.heap.size W wr) (fun _ j _ _ _ => im.length - (intOf j).toNat)
    case atStart => exact ⟨none, 0, 0, 0, [], rfl, rfl, by omega, by omega, Lib.hid rfl, Lib.hid rfl, Lib.hid (OwnC.start _ _ _ _), Lib.hid (RowOk.nil_ Q), hb1⟩
    case round =>
      obtain ⟨A1, c1, n1, jj, ss, rfl, rfl, hj1, hj8, HN1, HSL, HOW, HRO, hb⟩ := hrel
      obtain rfl := HN1.out
      by_cases hlt : jj < im.length
      · have g0 : (jj : Int) < (im.length : Int) := by omega
        by_cases h8 : jj < 8
        · have g1 : (jj : Int) < 8 := by omega
          obtain ⟨b1, off1, rfl, lb1, hcs⟩ := (HI.out.below hb) jj hlt
          obtain ⟨z1, z2, z3⟩ := HIM.out jj hlt
          obtain ⟨⟨sn, sv, sc⟩, hz⟩ : ∃ q, im.getD jj noImg = q := ⟨_, rfl⟩
          rw [hz] at hcs z1 z2 z3
          simp only [imgCs] at hcs z1 z2 z3
          have e0 := hcs 0 (by decide)
          have e1 := hcs 1 (by decide)
          have e2 := hcs 2 (by decide)
          simp [-CellFam.cellOfFamily] at e0 e1 e2
          clear hz hcs
          go_wp2_with fail
          clear e0 e1 e2
          by_cases hi : imgE sn sv sc = 0
          rotate_left
          · have HII := Lib.hid hi
            obtain ⟨E, hE⟩ : ∃ E, imgE sn sv sc = E := ⟨_, rfl⟩
            have HE := Lib.hid hE
            have t : (E != 0) = true := by rw [← hE]; simp [hi]
            clear hE hi
            refine (signMake_no x k sn sv sc _ (by omega) (by omega) HII.out).mono ?_
            rintro e w2 ⟨rfl, hb2⟩
            rw [HE.out]
            go_wp2_with fail
            go_ret
            exact ⟨rfl, grow_step HB0.out (grow_alloc (grow_step hb hb2) _)⟩
          cases hk : okSecret k
          · refine (signMake_bad x k sn sv sc _ (by omega) (by omega) hi (by rw [hk, Bool.and_false]) (HT.out.below hb)).mono ?_
            rintro e w2 ⟨rfl, hb2⟩
            go_wp2_with fail
            go_ret
            exact ⟨rfl, grow_step HB0.out (grow_alloc (grow_step hb hb2) _)⟩
          obtain ⟨S1, hS1⟩ : ∃ S, pwI 64 k = S := ⟨_, rfl⟩
          obtain ⟨S2, hS2⟩ : ∃ S, sealA x k (imgM sn sv sc) = S := ⟨_, rfl⟩
          have hsg : sgC Q (sn, sv, sc, S1, S2) = 0 := by
            show signE Q sn sv sc S1 S2 = 0
            rw [← hS1, ← hS2, ← HQQ.out]
            exact signE_own HX.out hk hi
          have HRO2 := Lib.hid (HRO.out.snoc (z := (sn, sv, sc, S1, S2)) hi hsg)
          have HMK := Lib.hid (fun w ht => signMake_yes x k sn sv sc _ w (by omega) (by omega) hi rfl HX.out hk ht)
          rw [hS1, hS2] at HMK
          clear hS1 hS2 hsg hi hk
          refine (HMK.out _ (HT.out.below hb)).mono ?_
          rintro e w2 ⟨rfl, hb2⟩
          have hCA : CellsAt ((w2.alloc (.cells #[.string sn, .int .i64 sv, .string sc, .int .i64 S1, .int .i64 S2] 34)).alloc (.cells (sgCells [(sn, sv, sc, S1, S2)]).toArray 34)) (some ⟨w2.heap.size + 1, 0, none⟩) (sgCells [(sn, sv, sc, S1, S2)]) := by
            have h := CellsAt.new_ (w2.alloc (.cells #[.string sn, .int .i64 sv, .string sc, .int .i64 S1, .int .i64 S2] 34)) 34 (sgCells [(sn, sv, sc, S1, S2)]) (0, 0)
            have e : (w2.alloc (.cells #[.string sn, .int .i64 sv, .string sc, .int .i64 S1, .int .i64 S2] 34)).heap.size = w2.heap.size + 1 := by simp
            rw [e] at h
            exact h
          have HCA := Lib.hid hCA
          have hw2 : W.heap.size ≤ w2.heap.size := (grow_step hb hb2).size
          have hbw2 : Below W.heap.size W ((w2.alloc (.cells #[.string sn, .int .i64 sv, .string sc, .int .i64 S1, .int .i64 S2] 34)).alloc (.cells (sgCells [(sn, sv, sc, S1, S2)]).toArray 34)) := grow_alloc (grow_alloc (grow_step hb hb2) _) _
          have HO1 := Lib.hid ((HOW.out.below hb2).below (grow_alloc (grow_alloc (grow_refl w2) (.cells #[.string sn, .int .i64 sv, .string sc, .int .i64 S1, .int .i64 S2] 34)) (.cells (sgCells [(sn, sv, sc, S1, S2)]).toArray 34)))
          have cB := (Box.new w2 34 #[.string sn, .int .i64 sv, .string sc, .int .i64 S1, .int .i64 S2]).cell
          clear hCA HMK hb2
          go_wp2_with (at_builtin; refine app_cells rfl _ _ 30 34 rfl Tryd.underlying30 infoSg_A rfl (by decide) W.heap.size A1 c1 ss.length (sgCells ss) rfl HO1.out (some ⟨w2.heap.size + 1, 0, none⟩) 1 1 (sgCells [(sn, sv, sc, S1, S2)]) rfl HCA.out rfl (sgCells_one _) (by have := HSL.out; omega) (by have := HSL.out; omega) (by simp; omega) ?_; intro A2 c2 k2 w4 hk2 ho2 hb4)
          have hb5 : Below W.heap.size W w4 := hbw2.trans hb4
          have HO2 : Hid (OwnC w4 W.heap.size 34 5 A2 c2 k2 (sgCells (ss ++ [(sn, sv, sc, S1, S2)]))) := Lib.hid (by rw [sgCells_append]; exact ho2)
          clear ho2 hb4 cB
          go_roundw
          case rel => exact ⟨A2, c2, k2, jj + 1, ss ++ [(sn, sv, sc, S1, S2)], rfl, by go_num, by omega, by omega, Lib.hid (by rw [hk2.out, List.length_append]; rfl), Lib.hid (by rw [List.length_append, HSL.out]; rfl), HO2, HRO2, hb5⟩
          case measure => simp [intOf]; omega
        · have g1 : ¬ (jj : Int) < 8 := by omega
          go_wp2_with fail
          go_meet
          exact ⟨A1, c1, _, ss, rfl, Lib.hid rfl, by have := HSL.out; omega, HOW, HRO, hb⟩
      · have g0 : ¬ (jj : Int) < (im.length : Int) := by omega
        go_wp2_with fail
        go_meet
        exact ⟨A1, c1, _, ss, rfl, Lib.hid rfl, by have := HSL.out; omega, HOW, HRO, hb⟩
  case rest =>
  clear hb1
  obtain ⟨A1, c1, n1, ss, rfl, HN1, h8, HOW, HRO, hb⟩ := hcut
  obtain rfl := HN1.out
  go_wp2_with fail
  refine (bootRun_fr Q A1 ss c1 _ (SgnsAt.of_cells HOW.out.cells) HRO.out.small (HRO.out.boot HQI.out h8) (HT.out.below hb)).mono ?_
  rintro e w2 ⟨m, n, A2, c2, es, y0, y1, y2, y3, y4, y5, y6, y7, hbi, hes, hy, rfl, hE2, hf2, hb2⟩
  obtain ⟨rfl, rfl⟩ := hbi.all (fun i hi => (HRO.out i hi).2)
  subst hes
  have HBK := Lib.hid hy
  have HEV := Lib.hid hE2
  have HFA := Lib.hid hf2
  have hb2w : Below W.heap.size W w2 := grow_step hb hb2
  have HW2 := Lib.hid (HOW.out.below hb2)
  have HGA : Hid (∀ a, A1 = some a → a.block < w2.heap.size) := Lib.hid (fun a ha => Nat.lt_of_lt_of_le (HOW.out.at_ a ha).2 hb2.size)
  clear hy hE2 hf2 hbi hb hb2 HOW
  have hlE : (evK ss ss.length).length = ss.length := evK_len _ _
  rw [hlE]
  obtain ⟨N, hN⟩ : ∃ N, ss.length = N := ⟨_, rfl⟩
  have HN := Lib.hid hN
  have h8N : N ≤ 8 := by omega
  rw [hN] at HBK HEV HW2 ⊢
  clear hN hlE HN1 h8
  go_wp2_with fail
  obtain ⟨wB, hwB⟩ : ∃ V, w2.alloc (.cells #[.int .i64 y0, .int .i64 y1, .int .i64 y2, .int .i64 y3, .int .i64 y4, .int .i64 y5, .int .i64 y6, .int .i64 y7] 38) = V := ⟨_, rfl⟩
  have HY := Lib.hid (show Box wB w2.heap.size 38 #[.int .i64 y0, .int .i64 y1, .int .i64 y2, .int .i64 y3, .int .i64 y4, .int .i64 y5, .int .i64 y6, .int .i64 y7] from by rw [← hwB]; exact Box.new _ _ _)
  have hb2B : Below w2.heap.size w2 wB := by rw [← hwB]; exact grow_alloc (grow_refl _) _
  have hszB : w2.heap.size < wB.heap.size := by rw [← hwB]; simp
  have hbB : Below W.heap.size W wB := grow_step hb2w hb2B
  have HWB := Lib.hid (HW2.out.below hb2B)
  have HEB := Lib.hid (HEV.out.below hb2B)
  rw [hwB]
  clear hwB HW2 HEV hb2B
  go_loopw [26, 27] (fun rul j wr => ∃ (A3 : Option Addr) (c3 k3 jj : Nat) (cs : List Value), rul = .slice A3 k3 c3 ∧ j = .int .i64 jj ∧ jj ≤ N ∧ Hid (k3 = jj) ∧ Hid (OwnC wr wB.heap.size 45 2 A3 c3 k3 cs) ∧ Hid (RCN wr A3 (ruleB [y0, y1, y2, y3, y4, y5, y6, y7] jj) cs) ∧ Below wB.heap.size wB wr) (fun _ j _ => N - (intOf j).toNat)
  case atStart => exact ⟨none, 0, 0, 0, [], rfl, rfl, by omega, Lib.hid rfl, Lib.hid (OwnC.start _ _ _ _), Lib.hid (RCN.nil_ _ _), grow_refl _⟩
  case round =>
    obtain ⟨A3, c3, k3, jj, cs, rfl, rfl, hjN, HK3, HO3, HR3, hbr⟩ := hrel
    obtain rfl := HK3.out.symm
    by_cases hlt : jj < N
    · have g0 : (jj : Int) < (N : Int) := by omega
      obtain ⟨V, hV⟩ : ∃ V, [y0, y1, y2, y3, y4, y5, y6, y7].getD jj 0 = V := ⟨_, rfl⟩
      have HV := Lib.hid hV
      have cY : wr.cell? ⟨w2.heap.size, jj, none⟩ = some (.int .i64 V) := by
        rw [← hV]
        exact Box.at_ (xs := [y0, y1, y2, y3, y4, y5, y6, y7]) (HY.out.below hbr) jj (by simp; omega)
      have lY : w2.heap.size < wr.heap.size := Nat.lt_of_lt_of_le hszB hbr.size
      have HAT := Lib.hid HO3.out.at_
      have hCA : CellsAt ((wr.alloc (.cells #[.int .i64 V] 3)).alloc (.cells #[.int .i64 (jj : Int), .slice (some ⟨wr.heap.size, 0, none⟩) 1 1] 45)) (some ⟨wr.heap.size + 1, 0, none⟩) [.int .i64 (jj : Int), .slice (some ⟨wr.heap.size, 0, none⟩) 1 1] := by
        have h := CellsAt.new_ (wr.alloc (.cells #[.int .i64 V] 3)) 45 [.int .i64 (jj : Int), .slice (some ⟨wr.heap.size, 0, none⟩) 1 1] (0, 0)
        have e : (wr.alloc (.cells #[.int .i64 V] 3)).heap.size = wr.heap.size + 1 := by simp
        rw [e] at h
        exact h
      have HCA := Lib.hid hCA
      have hbr2 : Below wr.heap.size wr ((wr.alloc (.cells #[.int .i64 V] 3)).alloc (.cells #[.int .i64 (jj : Int), .slice (some ⟨wr.heap.size, 0, none⟩) 1 1] 45)) := grow_alloc (grow_alloc (grow_refl wr) _) _
      have HO4 := Lib.hid (HO3.out.below hbr2)
      have HR4 := Lib.hid (HR3.out.below hbr2)
      have HI4 : Hid (IntsAt ((wr.alloc (.cells #[.int .i64 V] 3)).alloc (.cells #[.int .i64 (jj : Int), .slice (some ⟨wr.heap.size, 0, none⟩) 1 1] 45)) (some ⟨wr.heap.size, 0, none⟩) [V]) := Lib.hid ((IntsAt.new_ wr 3 [V] (0, 0)).below (grow_alloc (grow_refl _) _))
      have hwz : wr.heap.size < ((wr.alloc (.cells #[.int .i64 V] 3)).alloc (.cells #[.int .i64 (jj : Int), .slice (some ⟨wr.heap.size, 0, none⟩) 1 1] 45)).heap.size := by simp; omega
      have hbr3 : Below wB.heap.size wB ((wr.alloc (.cells #[.int .i64 V] 3)).alloc (.cells #[.int .i64 (jj : Int), .slice (some ⟨wr.heap.size, 0, none⟩) 1 1] 45)) := grow_alloc (grow_alloc hbr _) _
      clear hCA hV hbr2
      go_wp2_with (at_builtin; refine app_cells_but rfl _ _ 42 45 rfl Tryd.underlying42 infoRule_K rfl (by decide) wB.heap.size A3 c3 jj cs rfl HO4.out ⟨wr.heap.size + 1, 0, none⟩ 1 1 [.int .i64 (jj : Int), .slice (some ⟨wr.heap.size, 0, none⟩) 1 1] rfl HCA.out rfl (by intro u hu; simp only [List.mem_cons, List.not_mem_nil, or_false] at hu; rcases hu with rfl | rfl <;> rfl) (by omega) (by omega) (by have := hbr3.size; omega) ?_; intro A4 c4 k4 w4 hk4 ho4 hbut hat)
      have hb5 : Below wB.heap.size wB w4 := hbr3.trans (hbut.below hbr3.size (fun j hj => by obtain ⟨a, ha, e⟩ := hj; have := HAT.out a ha; omega))
      have hr5 := HR4.out.snoc hbut hat (x := (jj : Int)) (g := [V]) (gc := 1) HI4.out hwz (fun hj => by obtain ⟨a, ha, e⟩ := hj; have := HAT.out a ha; simp at e; omega)
      rw [← HV.out, ← ruleB_step] at hr5
      have HR5 := Lib.hid hr5
      have HO5 := Lib.hid ho4
      clear hr5 ho4 hbut hat cY
      go_roundw
      case rel => exact ⟨A4, c4, k4, jj + 1, _, rfl, by go_num, by omega, Lib.hid hk4.out, HO5, by have := HR5.out; simp only [HV.out] at this; exact Lib.hid this, hb5⟩
      case measure => simp [intOf]; omega
    · have g0 : ¬ (jj : Int) < (N : Int) := by omega
      obtain rfl : N = jj := by omega
      have HYr := Lib.hid (HY.out.below hbr)
      have cY := HYr.out.cell
      have lY := HYr.out.lt
      have hrl : (ruleB [y0, y1, y2, y3, y4, y5, y6, y7] N).length = N := ruleB_len _ _
      have hle : N ≤ c3 := ownC_le HO3.out
      have hrok : rulesE (ruleB [y0, y1, y2, y3, y4, y5, y6, y7] N) = 0 := by rw [HBK.out]; exact ruleB_ok (bankK_ok _ _) (bankK_len _ _) h8N
      have hball : ([y0, y1, y2, y3, y4, y5, y6, y7] : List Int).all okM = true := by rw [HBK.out]; exact bankK_ok _ _
      have hfit : fitM (ruleB [y0, y1, y2, y3, y4, y5, y6, y7] N) [y0, y1, y2, y3, y4, y5, y6, y7] = true := by rw [HBK.out]; exact fit_self _ h8N
      have hfB : fitsB (ruleB [y0, y1, y2, y3, y4, y5, y6, y7] N) [y0, y1, y2, y3, y4, y5, y6, y7] = true := by unfold fitsB; rw [hball, hfit, hrok]; rfl
      have hfE : fitsE (ruleB [y0, y1, y2, y3, y4, y5, y6, y7] N) [y0, y1, y2, y3, y4, y5, y6, y7] = 0 := by unfold fitsE; rw [if_pos hrok]; unfold bankE; rw [hball]; rfl
      have hask : askedB 255 (ruleB [y0, y1, y2, y3, y4, y5, y6, y7] N) = true := asked_B _ h8N
      have hsm : ∀ r ∈ ruleB [y0, y1, y2, y3, y4, y5, y6, y7] N, r.2.length = 1 := ruleB_small _ _
      have HRA := Lib.hid (RulesAt.of_cells HR3.out.cells HO3.out.cells)
      obtain ⟨rs, hrs⟩ : ∃ rs, ruleB [y0, y1, y2, y3, y4, y5, y6, y7] N = rs := ⟨_, rfl⟩
      have HRS := Lib.hid hrs
      rw [hrs] at hrl hrok hfit hfB hfE hask hsm HRA
      have HRL := Lib.hid hrl
      have HRK := Lib.hid hrok
      have HBA := Lib.hid hball
      have HFT := Lib.hid hfit
      have HAK := Lib.hid hask
      have HSM := Lib.hid hsm
      have HFI := Lib.hid (fun w h => fits_any A3 c3 rs y0 y1 y2 y3 y4 y5 y6 y7 w h (by omega) (by omega) (fun r hr => by have := hsm r hr; omega))
      rw [hfB, hfE, hrl] at HFI
      have hbrW : Below W.heap.size W wr := grow_step hbB hbr
      have HWr := Lib.hid (HWB.out.below hbr)
      have HEr := Lib.hid (HEB.out.below hbr)
      clear hrs hrok hfit hfB hfE hask hsm hball HR3 HO3 HWB HEB hlt
      go_wp2_with fail
      refine (HFI.out _ HRA.out).mono ?_
      rintro e w5 ⟨rfl, hb5⟩
      have HY5 := Lib.hid (HYr.out.below hb5)
      have HW5 := Lib.hid (HWr.out.below hb5)
      have HE5 := Lib.hid (HEr.out.below hb5)
      have HR5 := Lib.hid (HRA.out.below hb5)
      have hbw5 : Below W.heap.size W w5 := grow_step hbrW hb5
      clear hb5 HYr HWr HEr HRA hbrW cY lY HFI hbr
      go_wp2_with fail
      cases hsz' : (okM s && okM z)
      · have HNO := Lib.hid (fun w h => keeperNew_off Q s z A3 rs c3 w h)
        rw [HRL.out] at HNO
        have hd : s < 0 ∨ ¬ s < 0 ∧ 1000002 < s ∨ ¬ s < 0 ∧ ¬ 1000002 < s ∧ z < 0 ∨ ¬ s < 0 ∧ ¬ 1000002 < s ∧ ¬ z < 0 ∧ 1000002 < z := by
          rcases (show okM s = false ∨ okM z = false by revert hsz'; cases okM s <;> cases okM z <;> simp) with h | h
          all_goals
            unfold okM at h
            have := of_decide_eq_false h
            omega
        refine (HNO.out _ (by rw [HQI.out, Bool.true_and]; exact hsz')).mono ?_
        rintro e w6 ⟨rfl, hb6⟩
        have hbw6 : Below w.heap.size w w6 := grow_step HB0.out (grow_step hbw5 hb6)
        clear hb6 HNO hsz'
        rcases hd with p1 | ⟨p1, p2⟩ | ⟨p1, p2, p3⟩ | ⟨p1, p2, p3, p4⟩
        all_goals
          go_wp2_with fail
          go_ret
          exact ⟨rfl, hbw6⟩
      obtain ⟨s1, s2⟩ := Bool.and_eq_true_iff.1 hsz'
      clear hsz'
      have HSM2 : Hid (∀ r ∈ rs, r.2.length ≤ 1000000) := Lib.hid (fun r hr => by have := HSM.out r hr; omega)
      have HRN : Hid (rs.length ≤ 1000000) := Lib.hid (by have := HRL.out; omega)
      have HNN := Lib.hid (fun w h => keeperNew_on Q s z A3 rs c3 w HQI.out s1 s2 h (by have := HRL.out; omega) HRK.out HRN.out HSM2.out)
      rw [HRL.out] at HNN
      refine (HNN.out _ HR5.out).mono ?_
      rintro e w6 ⟨g, lo, k1, A', c', rfl, hN1, hK1, hcc1, hR1, hg1, hg2, hg3, hb6⟩
      have HK6 : Hid (KeptAt w6 Q s rs g g lo k1 A' c' z 0 none 0 [] ((0 : Nat) : Int)) := Lib.hid ⟨NonceIs.new hN1, hK1, hR1, hg2, hg3, Or.inl rfl, hcc1⟩
      clear hN1 hK1 hR1 hcc1 HNN HR5 HSM
      go_wp2_with fail
      refine (kAsk_more _ Q s rs g g lo k1 A' c' z 0 none 0 [] _ HK6.out s2 (by decide) (by decide)).mono ?_
      rintro e w7 ⟨An, cn, bn, rfl, hK7, hbn, hk7⟩
      have hpm : okM (pairM z ((0 : Nat) : Int)) = true := pairM_ok _ _
      obtain ⟨V0, hV0⟩ : ∃ V, pairM z ((0 : Nat) : Int) = V := ⟨_, rfl⟩
      rw [hV0] at hK7 hpm ⊢
      have HPM := Lib.hid hpm
      have HK7 := Lib.hid hK7
      have hb7 : Below w5.heap.size w5 w7 := hb6.trans (hk7.below hb6.size (by intro j h; have := HK6.out.lts; rcases h with h | h | h <;> omega))
      have HBN : Hid (w5.heap.size ≤ bn) := Lib.hid (by have := hb6.size; omega)
      have cY := (HY5.out.below hb7).cell
      have lY := (HY5.out.below hb7).lt
      clear hV0 hK7 hbn hk7 HK6 hpm hb6
      go_wp2_with fail
      clear cY lY
      cases hk : okSecret k
      · have hE : mkE x k V0 255 [y0, y1, y2, y3, y4, y5, y6, y7] = 1 := mk_badA hk HBA.out (by decide) HPM.out
        have hd : k < 1 ∨ ¬ k < 1 ∧ 256 < k := by
          unfold okSecret at hk
          have := of_decide_eq_false hk
          omega
        have HE := Lib.hid hE
        obtain ⟨⟨v1, v2, v3, v4, v5⟩, hv⟩ : ∃ v, mkV x k V0 255 [y0, y1, y2, y3, y4, y5, y6, y7] = v := ⟨_, rfl⟩
        have HV := Lib.hid hv
        clear hE hv hk
        refine (quoteMake_any x k V0 255 y0 y1 y2 y3 y4 y5 y6 y7 _).mono ?_
        rintro e w8 ⟨he, hb8⟩
        obtain rfl := he _ HV.out.symm
        rw [HE.out]
        simp only
        have hbw8 : Below w.heap.size w (w8.alloc (.cells #[.int .i64 v1, .int .i64 v2, .int .i64 v3, .int .i64 v4, .int .i64 v5] 53)) := grow_alloc (grow_step HB0.out (grow_step hbw5 (grow_step hb7 hb8))) _
        clear he hb8 HV HE
        rcases hd with p1 | ⟨p1, p2⟩
        all_goals
          go_wp2_with fail
          go_ret
          exact ⟨rfl, hbw8⟩
      have hEB : evBank (evK ss N) = [y0, y1, y2, y3, y4, y5, y6, y7] := by rw [evBank_K h8N]; exact HBK.out.symm
      have hEE : evE (evK ss N) = 0 := evE_K h8N
      have hEL : (evK ss N).length = N := evK_len _ _
      obtain ⟨es, hes⟩ : ∃ es, evK ss N = es := ⟨_, rfl⟩
      rw [hes] at HE5 hEB hEE hEL
      have HEB := Lib.hid hEB
      have HEE := Lib.hid hEE
      have HEL := Lib.hid hEL
      have HM0 : Hid (mkE x k V0 255 [y0, y1, y2, y3, y4, y5, y6, y7] = 0) := Lib.hid (mk_zeroA HX.out hk HBA.out (by decide) HPM.out)
      obtain ⟨d1, p1, a1, hmv, hsu⟩ := give_zero HM0.out HEE.out HEB.out HRK.out HAK.out
      rw [if_pos HFT.out, HQQ.out] at hsu
      have HMV := Lib.hid hmv
      have HSU := Lib.hid hsu
      have HKK := Lib.hid hk
      clear hes hEB hEE hEL hmv hsu hk
      refine (quoteMake_any x k V0 255 y0 y1 y2 y3 y4 y5 y6 y7 _).mono ?_
      rintro e w8 ⟨he, hb8⟩
      obtain rfl := he _ HMV.out.symm
      rw [HM0.out]
      simp only
      obtain ⟨wq, hwq⟩ : ∃ V, w8.alloc (.cells #[.int .i64 V0, .int .i64 255, .int .i64 d1, .int .i64 p1, .int .i64 a1] 53) = V := ⟨_, rfl⟩
      have hb8q : Below w8.heap.size w8 wq := by rw [← hwq]; exact grow_alloc (grow_refl _) _
      have HQ8 := Lib.hid (show Box wq w8.heap.size 53 #[.int .i64 V0, .int .i64 255, .int .i64 d1, .int .i64 p1, .int .i64 a1] from by rw [← hwq]; exact Box.new _ _ _)
      have HK8 := Lib.hid ((HK7.out.below hb8).below hb8q)
      have hb8' : Below w5.heap.size w5 wq := grow_step (grow_step hb7 hb8) hb8q
      have hkq : k1 < w8.heap.size ∧ g < w8.heap.size ∧ bn < w8.heap.size ∧ w5.heap.size ≤ w8.heap.size := by have := (HK7.out.below hb8).lts; have := (grow_step hb7 hb8).size; omega
      clear he hb8 HMV HM0 HK7 hb7 hb8q
      have HFE : Hid (∀ b, w5.heap.size ≤ b → ∀ a, A2 = some a → es ≠ [] → ¬ Foot g b a.block) := Lib.hid (fun b hb a ha hx h => by have := evs_lt HE5.out hx a ha; rcases h with h | h <;> omega)
      have HGV := Lib.hid (fun w hK hE hf hh h0 => kGive_ok w Q s rs g bn lo k1 A' c' V0 (0 + 1) An cn ([] ++ [V0]) 0 hK (by decide) (by simp) V0 255 d1 p1 a1 A2 es c2 hE (by have := HEL.out; omega) hf HRN.out HSM2.out hh h0)
      rw [HEL.out] at HGV
      have cQ := HQ8.out.cell
      have lQ := HQ8.out.lt
      go_wp2_with fail
      try rw [hwq]
      clear hwq cQ lQ
      refine (HGV.out _ HK8.out (HE5.out.below hb8') (HFE.out bn HBN.out) (by simp [hasI]) HSU.out).mono ?_
      rintro e w9 ⟨rfl, hK9, hk9⟩
      rw [show (([] : List Int) ++ [V0]).erase V0 = [] from by simp] at hK9
      have HK9 := Lib.hid hK9
      have HQ9 := Lib.hid (HQ8.out.but hk9 (by intro h; rcases h with h | h | h <;> omega))
      have hb9 : Below w5.heap.size w5 w9 := hb8'.trans (hk9.below hb8'.size (by intro j h; have := HBN.out; rcases h with h | h | h <;> omega))
      clear hK9 hk9 HK8 hb8' HGV HSU HQ8
      have hbw9 : Below w.heap.size w w9 := grow_step HB0.out (grow_step hbw5 hb9)
      by_cases i0 : i < 0
      · go_wp2_with fail
        go_ret
        exact ⟨rfl, hbw9⟩
      by_cases i1 : (N : Int) ≤ i
      · go_wp2_with fail
        go_ret
        exact ⟨rfl, hbw9⟩
      obtain ⟨ii, rfl⟩ := Int.eq_ofNat_of_zero_le (show 0 ≤ i by omega)
      have hii : ii < N := by omega
      obtain ⟨gA, cap, hvA, hcap, hgl⟩ := World.ownsRow.form HW5.out (by omega)
      clear hcap
      injection hvA with hvA _ hvA2
      subst hvA
      subst hvA2
      have HZ9 := Lib.hid (HW5.out.below hb9)
      have cO := (HO.out.below (grow_step hbw5 hb9)).cell
      have lO := (HO.out.below (grow_step hbw5 hb9)).lt
      have hbW9 : Below W.heap.size W w9 := grow_step hbw5 hb9
      go_wp2_with fail
      clear cO lO
      by_cases hi : imgE on ov oc = 0
      rotate_left
      · have HII := Lib.hid hi
        obtain ⟨E, hE⟩ : ∃ E, imgE on ov oc = E := ⟨_, rfl⟩
        have HE := Lib.hid hE
        have t : (E != 0) = true := by rw [← hE]; simp [hi]
        clear hE hi
        refine (signMake_no x k on ov oc _ (by omega) (by omega) HII.out).mono ?_
        rintro e w10 ⟨rfl, hb10⟩
        rw [HE.out]
        go_wp2_with fail
        go_ret
        exact ⟨rfl, grow_alloc (grow_step hbw9 hb10) _⟩
      obtain ⟨S1, hS1⟩ : ∃ S, pwI 64 k = S := ⟨_, rfl⟩
      obtain ⟨S2, hS2⟩ : ∃ S, sealA x k (imgM on ov oc) = S := ⟨_, rfl⟩
      have hsg : sgC Q (on, ov, oc, S1, S2) = 0 := by
        show signE Q on ov oc S1 S2 = 0
        rw [← hS1, ← hS2, ← HQQ.out]
        exact signE_own HX.out HKK.out hi
      have HRO2 := Lib.hid (HRO.out.set (z := (on, ov, oc, S1, S2)) hi hsg ii)
      have HMK := Lib.hid (fun w ht => signMake_yes x k on ov oc _ w (by omega) (by omega) hi rfl HX.out HKK.out ht)
      rw [hS1, hS2] at HMK
      clear hS1 hS2 hsg hi
      refine (HMK.out _ (HT.out.below hbW9)).mono ?_
      rintro e w10 ⟨rfl, hb10⟩
      obtain ⟨w11, hw11⟩ : ∃ V, w10.alloc (.cells #[.string on, .int .i64 ov, .string oc, .int .i64 S1, .int .i64 S2] 34) = V := ⟨_, rfl⟩
      have hb11 : Below w9.heap.size w9 w11 := by rw [← hw11]; exact grow_alloc hb10 _
      have HZ11 := Lib.hid (HZ9.out.below hb11)
      have f11 := HZ11.out.frzK
      have l11 := (HZ11.out.at_ _ rfl).2
      obtain ⟨bX, offX, eX, lX, hX⟩ := SgnsAt.of_cells HZ11.out.cells ii (by have := HN.out; omega)
      injection eX with eX
      injection eX with q1 q2
      subst q1
      subst q2
      obtain ⟨⟨z1, z2, z3, z4, z5⟩, hzz⟩ : ∃ q, ss.getD ii noSgn = q := ⟨_, rfl⟩
      rw [hzz] at hX
      simp only [sgnCs, Nat.zero_add] at hX
      have e0 := hX 0 (by decide)
      have e1 := hX 1 (by decide)
      have e2 := hX 2 (by decide)
      have e3 := hX 3 (by decide)
      have e4 := hX 4 (by decide)
      simp [-CellFam.cellOfFamily] at e0 e1 e2 e3 e4
      clear hX hzz
      have hgA2 : gA < w2.heap.size := HGA.out _ rfl
      have hgAW : W.heap.size ≤ gA := (HZ11.out.at_ _ rfl).1
      have h52 : w2.heap.size < w5.heap.size := HY5.out.lt
      have hh := HZ11.out
      rw [← HN.out] at hh
      have h5 := hh.set5 ii (by have := HN.out; omega) (on, ov, oc, S1, S2)
      have hlen : (ss.set ii (on, ov, oc, S1, S2)).length = N := by rw [List.length_set]; exact HN.out
      obtain ⟨tt, htt⟩ : ∃ tt, ss.set ii (on, ov, oc, S1, S2) = tt := ⟨_, rfl⟩
      rw [htt] at h5 hlen HRO2
      simp only at h5
      have hks : But (fun j => j = gA) w11 (((((w11.setCell ⟨gA, ii * 5, none⟩ (.string on)).setCell ⟨gA, ii * 5 + 1, none⟩ (.int .i64 ov)).setCell ⟨gA, ii * 5 + 2, none⟩ (.string oc)).setCell ⟨gA, ii * 5 + 3, none⟩ (.int .i64 S1)).setCell ⟨gA, ii * 5 + 4, none⟩ (.int .i64 S2)) :=
        (((((But.refl (fun j => j = gA) w11).setCell (p := ⟨gA, ii * 5, none⟩) (Or.inl rfl) (.string on)).setCell (p := ⟨gA, ii * 5 + 1, none⟩) (Or.inl rfl) (.int .i64 ov)).setCell (p := ⟨gA, ii * 5 + 2, none⟩) (Or.inl rfl) (.string oc)).setCell (p := ⟨gA, ii * 5 + 3, none⟩) (Or.inl rfl) (.int .i64 S1)).setCell (p := ⟨gA, ii * 5 + 4, none⟩) (Or.inl rfl) (.int .i64 S2)
      obtain ⟨ws, hws⟩ : ∃ V, ((((w11.setCell ⟨gA, ii * 5, none⟩ (.string on)).setCell ⟨gA, ii * 5 + 1, none⟩ (.int .i64 ov)).setCell ⟨gA, ii * 5 + 2, none⟩ (.string oc)).setCell ⟨gA, ii * 5 + 3, none⟩ (.int .i64 S1)).setCell ⟨gA, ii * 5 + 4, none⟩ (.int .i64 S2) = V := ⟨_, rfl⟩
      rw [hws] at h5 hks
      have HTT := Lib.hid (SgnsAt.of_cells h5.cells)
      have HLN := Lib.hid hlen
      have hWW : w.heap.size ≤ W.heap.size := HB0.out.size
      have h59 := hb9.size
      have h911 := hb11.size
      have hK9l := HK9.out.lts
      have HKs := Lib.hid ((HK9.out.below hb11).but hks (by intro j j1 j2 h; omega) (by have := HBN.out; omega))
      have HYs := Lib.hid ((HY5.out.below (grow_step hb9 hb11)).but hks (by omega))
      have HQs := Lib.hid ((HQ9.out.below hb11).but hks (by omega))
      have hbws : Below w.heap.size w ws := (grow_step hbw9 hb11).trans (hks.below (by have := (grow_step hbw9 hb11).size; omega) (by intro j h; omega))
      have hbWs : Below W.heap.size W ws := (grow_step hbW9 hb11).trans (hks.below (by have := (grow_step hbW9 hb11).size; omega) (by intro j h; omega))
      have hs8 : w8.heap.size < ws.heap.size := HQs.out.lt
      have hHs : Hid (g < ws.heap.size ∧ k1 < ws.heap.size ∧ bn < ws.heap.size) := Lib.hid (by have := HKs.out.lts; omega)
      have HBT := Lib.hid (fun w a t => bootRun_fr Q (some ⟨gA, 0, none⟩) tt c1 w a HRO2.out.small (HRO2.out.boot HQI.out (by omega)) t)
      rw [hlen] at HBT
      have HSB := Lib.hid (show Box w11 w10.heap.size 34 #[.string on, .int .i64 ov, .string oc, .int .i64 S1, .int .i64 S2] from by rw [← hw11]; exact Box.new _ _ _)
      have cS := HSB.out.cell
      have lS := HSB.out.lt
      clear HMK HZ9 hb10
      clear h5 hks hh htt hlen hb11 HK9 HQ9 HZ11
      go_wp2_with fail
      try rw [hws]
      clear hws cS lS e0 e1 e2 e3 e4
      refine (HBT.out _ HTT.out (HT.out.below hbWs)).mono ?_
      rintro e w12 ⟨m', n', B2, e2, es2, x0, x1, x2, x3, x4, x5, x6, x7, hbi2, hes2, hx2, rfl, hE12, hf12, hb12⟩
      obtain ⟨hn1, hn2⟩ := hbi2.all (fun i hi => (HRO2.out i hi).2)
      have hmN : m' = N := by have := HLN.out; omega
      rw [hmN] at hes2 hx2
      have HEB2 : Hid (evBank es2 = [x0, x1, x2, x3, x4, x5, x6, x7]) := Lib.hid (by rw [hes2, evBank_K h8N]; exact hx2.symm)
      have HEE2 : Hid (evE es2 = 0) := Lib.hid (by rw [hes2]; exact evE_K h8N)
      have HEL2 : Hid (es2.length = N) := Lib.hid (by rw [hes2]; exact evK_len _ _)
      have HXA : Hid (([x0, x1, x2, x3, x4, x5, x6, x7] : List Int).all okM = true) := Lib.hid (by rw [hx2]; exact bankK_ok _ _)
      have HIFF : Hid (fitM rs [x0, x1, x2, x3, x4, x5, x6, x7] = true ↔ [x0, x1, x2, x3, x4, x5, x6, x7] = [y0, y1, y2, y3, y4, y5, y6, y7]) := Lib.hid (by rw [← HRS.out, HBK.out, hx2]; exact fit_bank ss tt h8N)
      have HK12 := Lib.hid (HKs.out.below hb12)
      have HE12 := Lib.hid hE12
      have hbw12 : Below w.heap.size w w12 := grow_step hbws hb12
      have HF12 : Hid (∀ a, B2 = some a → ws.heap.size ≤ a.block ∧ (es2 ≠ [] → a.block < w12.heap.size)) := Lib.hid (fun a ha => ⟨hf12 a ha, fun hx => evs_lt hE12 hx a ha⟩)
      have HY12 := Lib.hid (HYs.out.below hb12)
      have HQ12 := Lib.hid (HQs.out.below hb12)
      have hs12 := hb12.size
      clear hbi2 hes2 hx2 hn1 hn2 hmN hE12 hf12 hb12 HKs HYs HQs HBT hbws
      obtain ⟨wc, hwc⟩ : ∃ V, w12.alloc (.cells #[.int .i64 x0, .int .i64 x1, .int .i64 x2, .int .i64 x3, .int .i64 x4, .int .i64 x5, .int .i64 x6, .int .i64 x7] 38) = V := ⟨_, rfl⟩
      have hbc : Below w12.heap.size w12 wc := by rw [← hwc]; exact grow_alloc (grow_refl _) _
      have HXB := Lib.hid (show Box wc w12.heap.size 38 #[.int .i64 x0, .int .i64 x1, .int .i64 x2, .int .i64 x3, .int .i64 x4, .int .i64 x5, .int .i64 x6, .int .i64 x7] from by rw [← hwc]; exact Box.new _ _ _)
      have HKc := Lib.hid (HK12.out.below hbc)
      have HYc := Lib.hid (HY12.out.below hbc)
      have HQc := Lib.hid (HQ12.out.below hbc)
      have HEc := Lib.hid (HE12.out.below hbc)
      have hbwc : Below w.heap.size w wc := grow_step hbw12 hbc
      have hKl := HK12.out.lts
      clear HK12 HY12 HQ12 HE12 hbc
      go_wp2_with fail
      clear hwc
      refine (kAsk_more _ Q s rs g bn lo k1 A' c' V0 (0 + 1) An cn [] _ HKc.out HPM.out (by decide) (by decide)).mono ?_
      rintro e w13 ⟨An2, cn2, bn2, rfl, hK13, hbn2, hk13⟩
      have hpm2 : okM (pairM V0 ((0 + 1 : Nat) : Int)) = true := pairM_ok _ _
      obtain ⟨V1, hV1⟩ : ∃ V, pairM V0 ((0 + 1 : Nat) : Int) = V := ⟨_, rfl⟩
      rw [hV1] at hK13 hpm2 ⊢
      have HPM2 := Lib.hid hpm2
      have HK13 := Lib.hid hK13
      have HF13 := Lib.hid (show KFoot g bn k1 w8.heap.size → False from by intro h; rcases h with h | h | h <;> omega)
      have hb13 : Below w.heap.size w w13 := hbwc.trans (hk13.below hbwc.size (by intro j h; have := HBN.out; have := hbw5.size; rcases h with h | h | h <;> omega))
      have HY13 := Lib.hid (HYc.out.but hk13 (by intro h; have := HBN.out; rcases h with h | h | h <;> omega))
      have HQ13 := Lib.hid (HQc.out.but hk13 HF13.out)
      have HE13 := Lib.hid (HEc.out.but' hk13 (by intro a ha hx h; have h1 := (HF12.out a ha).1; have := hHs.out; rcases h with h | h | h <;> omega))
      have HX13 := Lib.hid (HXB.out.but hk13 (by intro h; have := HBN.out; rcases h with h | h | h <;> omega))
      have hxl := HXB.out.lt
      have HBN2 : Hid (bn2 ≠ w8.heap.size ∧ w5.heap.size ≤ bn2 ∧ (bn2 < ws.heap.size ∨ w12.heap.size < bn2)) := Lib.hid (by have := HBN.out; have := hHs.out; rcases hbn2 with h | h <;> omega)
      have hs13 := hk13.size
      clear hV1 hK13 hbn2 hk13 HKc HYc HQc HEc HXB hpm2
      have cX := HX13.out.cell
      have lX2 := HX13.out.lt
      go_wp2_with fail
      clear cX lX2
      have HM1 : Hid (mkE x k V1 255 [x0, x1, x2, x3, x4, x5, x6, x7] = 0) := Lib.hid (mk_zeroA HX.out HKK.out HXA.out (by decide) HPM2.out)
      obtain ⟨d2, p2, a2, hmv2, hsu2⟩ := give_zero HM1.out HEE2.out HEB2.out HRK.out HAK.out
      rw [HQQ.out] at hsu2
      have HMV2 := Lib.hid hmv2
      have HSU2 := Lib.hid hsu2
      clear hmv2 hsu2
      refine (quoteMake_any x k V1 255 x0 x1 x2 x3 x4 x5 x6 x7 _).mono ?_
      rintro e w14 ⟨he, hb14⟩
      obtain rfl := he _ HMV2.out.symm
      rw [HM1.out]
      simp only
      have HK14 := Lib.hid (HK13.out.below hb14)
      have HY14 := Lib.hid (HY13.out.below hb14)
      have HX14 := Lib.hid (HX13.out.below hb14)
      have HQ14 := Lib.hid (HQ13.out.below hb14)
      have HE14 := Lib.hid (HE13.out.below hb14)
      have hb14' : Below w.heap.size w w14 := grow_step hb13 hb14
      have hs14 := hb14.size
      clear he hb14 HMV2 HM1 HK13 HY13 HX13 HQ13 HE13 hb13
      obtain ⟨wf, hwf⟩ : ∃ V, ((((w14.setCell ⟨w8.heap.size, 0, none⟩ (.int .i64 V1)).setCell ⟨w8.heap.size, 1, none⟩ (.int .i64 255)).setCell ⟨w8.heap.size, 2, none⟩ (.int .i64 d2)).setCell ⟨w8.heap.size, 3, none⟩ (.int .i64 p2)).setCell ⟨w8.heap.size, 4, none⟩ (.int .i64 a2) = V := ⟨_, rfl⟩
      have cQ := HQ14.out.cell
      have lQ := HQ14.out.lt
      have fQ := HQ14.out.frozen
      have hQf := HQ14.out.fill5 (.int .i64 V1) (.int .i64 255) (.int .i64 d2) (.int .i64 p2) (.int .i64 a2)
      have hkf : But (fun j => j = w8.heap.size) w14 (((((w14.setCell ⟨w8.heap.size, 0, none⟩ (.int .i64 V1)).setCell ⟨w8.heap.size, 1, none⟩ (.int .i64 255)).setCell ⟨w8.heap.size, 2, none⟩ (.int .i64 d2)).setCell ⟨w8.heap.size, 3, none⟩ (.int .i64 p2)).setCell ⟨w8.heap.size, 4, none⟩ (.int .i64 a2)) :=
        (((((But.refl (fun j => j = w8.heap.size) w14).setCell (p := ⟨w8.heap.size, 0, none⟩) (Or.inl rfl) (.int .i64 V1)).setCell (p := ⟨w8.heap.size, 1, none⟩) (Or.inl rfl) (.int .i64 255)).setCell (p := ⟨w8.heap.size, 2, none⟩) (Or.inl rfl) (.int .i64 d2)).setCell (p := ⟨w8.heap.size, 3, none⟩) (Or.inl rfl) (.int .i64 p2)).setCell (p := ⟨w8.heap.size, 4, none⟩) (Or.inl rfl) (.int .i64 a2)
      rw [hwf] at hQf hkf
      have HQf := Lib.hid hQf
      have HKf := Lib.hid (HK14.out.but hkf (by intro j j1 j2 h; omega) HBN2.out.1)
      have HYf := Lib.hid (HY14.out.but hkf (by intro h; omega))
      have HXf := Lib.hid (HX14.out.but hkf (by intro h; omega))
      have HEf := Lib.hid (HE14.out.but' hkf (by intro a ha hx h; have := (HF12.out a ha).1; omega))
      have hbwf : Below w.heap.size w wf := hb14'.trans (hkf.below hb14'.size (by intro j h; have := hbw5.size; omega))
      have HFT2 : Hid (∀ a, B2 = some a → es2 ≠ [] → ¬ Foot g bn2 a.block) := Lib.hid (fun a ha hx h => by have h1 := (HF12.out a ha).1; have h2 := (HF12.out a ha).2 hx; have := hHs.out; have := HBN2.out; rcases h with h | h <;> omega)
      have cQf := hQf.cell
      have lQf := hQf.lt
      clear hQf hkf HK14 HY14 HX14 HQ14 HE14 hb14'
      go_wp2_with fail
      clear hwf cQ lQ fQ cQf lQf
      have ge8 := fun o p w => run_eq8_guard x0 x1 x2 x3 x4 x5 x6 x7 y0 y1 y2 y3 y4 y5 y6 y7 .eql o p w
      have he8 := fun w => run_eq8_eql x0 x1 x2 x3 x4 x5 x6 x7 y0 y1 y2 y3 y4 y5 y6 y7 w
      by_cases hfit : fitM rs [x0, x1, x2, x3, x4, x5, x6, x7] = true
      · rw [show ([x0, x1, x2, x3, x4, x5, x6, x7] == [y0, y1, y2, y3, y4, y5, y6, y7]) = true from by rw [HIFF.out.1 hfit]; simp] at he8
        refine (kGive_ok _ Q s rs g bn2 lo k1 A' c' V1 (0 + 1 + 1) An2 cn2 ([] ++ [V1]) (0 + 1) HKf.out (by omega) (by simp) V1 255 d2 p2 a2 B2 es2 e2 HEf.out (by have := HEL2.out; omega) HFT2.out HRN.out HSM2.out (by simp [hasI]) (by rw [HSU2.out, if_pos hfit])).mono ?_
        rintro e w15 ⟨rfl, hK15, hk15⟩
        have HYz := Lib.hid (HYf.out.but hk15 (by intro h; have := HBN.out; have := HBN2.out; rcases h with h | h | h <;> omega))
        have HXz := Lib.hid (HXf.out.but hk15 (by intro h; have := hHs.out; have := HBN2.out; rcases h with h | h | h <;> omega))
        have hbz : Below w.heap.size w w15 := hbwf.trans (hk15.below hbwf.size (by intro j h; have := HBN2.out; have := hbw5.size; rcases h with h | h | h <;> omega))
        have cY := HYz.out.cell
        have lY := HYz.out.lt
        have cX := HXz.out.cell
        have lX2 := HXz.out.lt
        clear hK15 hk15 HKf HEf HXf HYf HQf
        go_wp2_with fail
        go_quiet (fail)
        go_wp2_with fail
        go_ret
        exact ⟨by first | rfl | simp, (by repeat (first | (with_reducible exact grow_refl _) | (with_reducible assumption) | (with_reducible refine grow_alloc ?_ _) | (with_reducible refine grow_set ?_ (by first | exact Nat.le_refl _ | (simp; done) | (simp; omega) | omega) _) | (with_reducible refine grow_drewN ?_ _) | (with_reducible refine grow_drew ?_) | (with_reducible refine grow_step ?_ (by assumption)) | (with_reducible refine grow_base ?_ (by assumption))))⟩
      · rw [show ([x0, x1, x2, x3, x4, x5, x6, x7] == [y0, y1, y2, y3, y4, y5, y6, y7]) = false from by
          have hne : [x0, x1, x2, x3, x4, x5, x6, x7] ≠ [y0, y1, y2, y3, y4, y5, y6, y7] := fun h => hfit (HIFF.out.2 h)
          exact beq_false_of_ne hne] at he8
        refine (kGive_bad _ Q s rs g bn2 lo k1 A' c' V1 (0 + 1 + 1) An2 cn2 ([] ++ [V1]) (0 + 1) HKf.out (by omega) (by simp) V1 255 d2 p2 a2 B2 es2 e2 HEf.out (by have := HEL2.out; omega) HFT2.out HRN.out HSM2.out (by simp [hasI]) 6 (by rw [HSU2.out, if_neg hfit]) (by decide)).mono ?_
        rintro e w15 ⟨rfl, hK15, hk15⟩
        have HYz := Lib.hid (HYf.out.but hk15 (by intro h; have := HBN.out; have := HBN2.out; rcases h with h | h | h <;> omega))
        have HXz := Lib.hid (HXf.out.but hk15 (by intro h; have := hHs.out; have := HBN2.out; rcases h with h | h | h <;> omega))
        have hbz : Below w.heap.size w w15 := hbwf.trans (hk15.below hbwf.size (by intro j h; have := HBN2.out; have := hbw5.size; rcases h with h | h | h <;> omega))
        have cY := HYz.out.cell
        have lY := HYz.out.lt
        have cX := HXz.out.cell
        have lX2 := HXz.out.lt
        clear hK15 hk15 HKf HEf HXf HYf HQf
        go_wp2_with fail
        go_quiet (fail)
        go_wp2_with fail
        go_ret
        exact ⟨by first | rfl | simp, (by repeat (first | (with_reducible exact grow_refl _) | (with_reducible assumption) | (with_reducible refine grow_alloc ?_ _) | (with_reducible refine grow_set ?_ (by first | exact Nat.le_refl _ | (simp; done) | (simp; omega) | omega) _) | (with_reducible refine grow_drewN ?_ _) | (with_reducible refine grow_drew ?_) | (with_reducible refine grow_step ?_ (by assumption)) | (with_reducible refine grow_base ?_ (by assumption))))⟩

set_option maxRecDepth 100000 in
theorem topAttest_walks (H : Type) (enc : TypeId × Value → H) : WalksD enc Tryd.prog TabT 3 Tryd.f3 := by
  intro W base args ds p hval hA hlt hsz hsh hdoor
  have hsz0 := hsz
  rw [Tryd.params3] at hA hval
  obtain ⟨v0, vs0, d0, ds0, p0, q0, hargs, rfl, rfl, h0, r0⟩ := trodAll_cons hA
  obtain ⟨v1, vs1, d1, ds1, p1, q1, rfl, rfl, rfl, h1, r1⟩ := trodAll_cons r0
  obtain ⟨v2, vs2, d2, ds2, p2, q2, rfl, rfl, rfl, h2, r2⟩ := trodAll_cons r1
  obtain ⟨v3, vs3, d3, ds3, p3, q3, rfl, rfl, rfl, h3, r3⟩ := trodAll_cons r2
  obtain ⟨v4, vs4, d4, ds4, p4, q4, rfl, rfl, rfl, h4, r4⟩ := trodAll_cons r3
  obtain ⟨v5, vs5, d5, ds5, p5, q5, rfl, rfl, rfl, h5, r5⟩ := trodAll_cons r4
  obtain ⟨v6, vs6, d6, ds6, p6, q6, rfl, rfl, rfl, h6, r6⟩ := trodAll_cons r5
  obtain ⟨rfl, rfl, rfl⟩ := trodAll_nil r6
  obtain rfl : args = #[v0, v1, v2, v3, v4, v5, v6] := by cases args; simp_all
  obtain ⟨a0, rfl, w0⟩ := op_int (hval 0 3 v0 rfl rfl) h0
  obtain ⟨a1, rfl, w1⟩ := op_int (hval 1 3 v1 rfl rfl) h1
  obtain ⟨A2, a2, c2, rfl, w2, z2, y2, g2⟩ := op_images (hval 2 22 v2 rfl rfl) h2 (fun x hx => hlt x (by simp [hx])) (w_each hsz 2 22 _ (by rw [Tryd.params3]; rfl) rfl)
  obtain ⟨a3, rfl, w3⟩ := op_int (hval 3 3 v3 rfl rfl) h3
  obtain ⟨a4, rfl, w4⟩ := op_int (hval 4 3 v4 rfl rfl) h4
  obtain ⟨a5, rfl, w5⟩ := op_int (hval 5 3 v5 rfl rfl) h5
  obtain ⟨a6, b6, c6, rfl, w6, u6, z6⟩ := op_image (hval 6 24 v6 rfl rfl) h6 (w_each hsz 6 24 _ (by rw [Tryd.params3]; rfl) rfl)
  exact topAttest_walk W a0 a1 A2 a2 c2 a3 a4 a5 a6 b6 c6 w0 w1 w2 z2 y2 g2 w3 w4 w5 w6 u6 z6 hdoor

set_option maxRecDepth 100000 in
theorem topAttest_lifted (os : Os) (started : os.Started) (H : Type) (enc : TypeId × Value → H) :
    ReturnsInHanded {} Tryd.checked os 3 .any (fun w args => (Rows.topAttestSpec.pre enc Tryd.checked.prog Tryd.f3 [] false w args ∧ laidMetH Tryd.checked.prog LaidT w) ∧ sizedMet enc Tryd.checked.prog Tryd.f3 (OpenSpec.ofChange Rows.topAttestSpec) false w args) (Rows.topAttestSpec.post enc Tryd.checked.prog Tryd.f3 false true false false) :=
  returns_of_walkD (C := Tryd.checked) (s := Rows.topAttestSpec) (L := LaidT) (D := TabT) own started (by kernel_rfl) Tryd.func3
    (ChangeSpec.witness_at (enc := enc) (C := Tryd.checked) (os := os) (X := fun w _ => laidMetH Tryd.prog LaidT w) false (laidWorldT os) #[.int .i64 0, .int .i64 0, .slice none 0 0, .int .i64 0, .int .i64 0, .int .i64 0, .agg #[.string ⟨#[]⟩, .int .i64 0, .string ⟨#[]⟩]] 8 rfl (by kernel_rfl) (by kernel_rfl) (by kernel_rfl) (by kernel_rfl) (by kernel_rfl) (laidWorldT_met os _))
    (fun W h => tabT_of_laid h) laidOut (by kernel_rfl) rfl Tryd.underlying4 rfl (fun ds h => by match ds, h with | [_, _, _, _, _, _, _], _ => rfl) (topAttest_walks H enc)

theorem topAttest_bare : Rows.TopAttestSaid :=
  OpenClaim.holds_of_wide 3 Tryd.f3 rfl rfl rfl rfl rfl rfl rfl ⟨rfl, rfl, rfl, rfl, rfl⟩ rfl rfl rfl rfl rfl (by kernel_rfl) Tryd.func3 (by kernel_rfl)
    (of_decide_eq_true (by kernel_rfl)) (by unfold Func.isWrapper; rw [if_neg (of_decide_eq_false (by kernel_rfl))]; exact ⟨rfl, rfl⟩)
    (fun os started H enc _ => topAttest_lifted os started H enc)

theorem topAttest_holds : Rows.TopAttestCardSaid :=
  Claim7.holds_tied_plain_at .later [] [.data, .data, .data] true Rows.topAttestCard.stood.harness true
    topAttest_bare (fun _ h => by cases h) (by kernel_rfl) (fun _ h => by cases h) topAttest_row_tie rfl ⟨rfl, rfl⟩ (by kernel_rfl) rfl
    (fun f fn hf hfn => by
      obtain rfl : f = 3 := Option.some.inj ((show Tryd.prog.funcNamed "bootstair/stairtop.TopAttest" = some 3 by kernel_rfl).symm.trans hf) |>.symm
      obtain rfl : fn = Tryd.f3 := (Option.some.inj (Tryd.func3.symm.trans hfn)).symm
      exact ⟨by kernel_rfl, fun j t ht => by
        have hm : t ∈ Tryd.f3.params.toList := by simpa using Array.mem_of_getElem? ht
        have hall : (Tryd.f3.params.toList.all fun u => !Tryd.prog.wantsStandIn u) = true := by kernel_rfl
        exact (show Tryd.prog.wantsStandIn t = false by simpa using List.all_eq_true.1 hall t hm)⟩)
    (by kernel_rfl)

end Go.Proofs.YtdedllfgeekogaaDoor
