/- KeeperOnce: who answers a question with a quote of a bank that fits is given the secret, once for each question. The package variable errors.errorType holds what the program's text lays. -/
import Derived.Test.YtdedllfgeekogaaDoorRows
import Derived.Test.YtdedllfgeekogaaDoorOpen
import Derived.Test.YtdedllfgeekogaaDoorOpE
import Derived.Test.YtdedllfgeekogaaDoorOpR2
import Derived.Test.YtdedllfgeekogaaDoorOpenS
import Derived.Test.YtdedllfgeekogaaDoorOpS
import Derived.Test.YtdedllfgeekogaaDoorEvent2
import Derived.Test.YtdedllfgeekogaaDoorRule2
import Derived.Test.YtdedllfgeekogaaDoorJudge
import Derived.Test.YtdedllfgeekogaaDoorQtPlain
import Derived.Test.YtdedllfgeekogaaDoorKeep
import Derived.Test.YtdedllfgeekogaaDoorKeep2
import Derived.Test.YtdedllfgeekogaaDoorTold
import Derived.Test.YtdedllfgeekogaaDoorBds
import Derived.Test.YtdedllfgeekogaaDoorLiftD
import Derived.WalkKit
import Derived.Lib.Hide
import Derived.Deep.CutRange
import Derived.Deep.DeepCutAuto
namespace Go.Proofs.YtdedllfgeekogaaDoor
open Go.ChangeShapes Go.WideShapes Go.ChangeAt Go.RowKit
set_option linter.unusedVariables false
set_option maxRecDepth 100000

theorem all_evBankO {es : List (Int × Int)} {y0 y1 y2 y3 y4 y5 y6 y7 : Int} (h : [y0, y1, y2, y3, y4, y5, y6, y7] = repB es) (h0 : evE es = 0) : [y0, y1, y2, y3, y4, y5, y6, y7] = evBank es := by
  rw [h]; unfold repB; rw [if_pos h0]
theorem mk_again {x k n c m : Int} {b : List Int} (h : mkE x k n m b = 0) (hc : okM c = true) : mkE x k c m b = 0 := by
  unfold mkE at h ⊢
  rw [if_pos hc]
  by_cases hn : okM n = true
  · rw [if_pos hn] at h
    by_cases hd : digE b m = 0
    · rw [if_pos hd] at h ⊢
      unfold sgE okSign at h ⊢
      rw [rowM_ok] at h ⊢
      exact h
    · rw [if_neg hd] at h; exact absurd h hd
  · rw [if_neg hn] at h; exact absurd h (by decide)
theorem okIn_pub {x : Int} (hx : okSecret x = true) : okIn (pwI 64 x) = true := by
  obtain ⟨x1, x2⟩ := okSecret_yes hx
  exact key_in (x := x) (by omega) (by omega)
/-- The first keeper's quote. -/
theorem lit_once : mkE 1 9 7920 0 [0, 0, 0, 0, 0, 0, 0, 0] = 0 := by decide
theorem lit_onceV : ∃ d p a, mkV 1 9 7920 0 [0, 0, 0, 0, 0, 0, 0, 0] = (7920, 0, d, p, a) ∧ sureE 64 7920 0 d p a 7920 [] [] = 0 := by
  have hv := (make_ok lit_once).2.2.2.2.2.1
  refine ⟨_, _, _, hv, ?_⟩
  have := sure_of (x := 1) (k := 9) (n := 7920) (m := 0) (es := []) (rs := []) lit_once rfl rfl rfl
  exact (show sureE 64 _ _ _ _ _ _ _ _ = _ from this).trans (by decide)
theorem lit_ask : pairM 1 ((0 : Nat) : Int) = 7920 := by decide

set_option maxHeartbeats 4000000 in
theorem keeperOnce_walk (w : World) (x k s z : Int) (A : Option Addr) (es : List (Int × Int)) (ec : Nat) (A2 : Option Addr) (rs : List (Int × List Int)) (rc : Nat) (m : Int) (ix : I64 x) (ik : I64 k) (js : I64 s) (jz : I64 z)
    (hA : EvsAt w A es) (hz : es.length * 16 ≤ 140737488351232) (hc : es.length ≤ ec) (hR : RulesAt w A2 rs) (hzr : rs.length * 32 ≤ 140737488351232) (hrc : rs.length ≤ rc) (hgl : ∀ r ∈ rs, r.2.length * 8 ≤ 140737488351232) (im : I64 m) (hg : Door w) :
    Calls Tryd.prog 6 #[.int .i64 x, .int .i64 k, .int .i64 s, .int .i64 z, .slice A es.length ec, .slice A2 rs.length rc, .int .i64 m] w fun e w' => e = .returned (.bool true) ∧ Below w.heap.size w w' := by
  have en := fun k w => err_neq k w
  have ee := fun k w => err_eql k w
  have gn := fun o k w => err_guard_neq o k w
  have ge := fun o k w => err_guard_eql o k w
  have HA := Lib.hid hA
  have HR := Lib.hid hR
  have HG := Lib.hid hg
  have HL : Hid (∀ s ∈ rs, s.2.length ≤ 9223372036854775806) := Lib.hid (fun s hs => by have := hgl s hs; omega)
  have HGL := Lib.hid hgl
  obtain ⟨d1, p1, a1, hlm, hls⟩ := lit_onceV
  have L1 := Lib.hid lit_once
  have L2 := Lib.hid hlm
  have L3 := Lib.hid hls
  clear hA hR hgl hlm hls hg
  go_enter Tryd.func6, Tryd.ntmps6
  go_wp2_with fail
  refine (keeperNew_on 64 7 1 none [] 0 _ (by decide) (by decide) (by decide) (RulesAt.nil_ _ _) (Nat.le_refl _) (by decide) (by simp) (by simp)).mono ?_
  rintro e w1 ⟨g0, lo0, k0, A0, c0, rfl, hN1, hK1, hcc1, hR1, hg1, hg2, hg3, hb1⟩
  have HK1 : Hid (KeptAt w1 64 7 [] g0 g0 lo0 k0 A0 c0 1 0 none 0 [] ((0 : Nat) : Int)) := Lib.hid ⟨NonceIs.new hN1, hK1, hR1, hg2, hg3, Or.inl rfl, hcc1⟩
  clear hN1 hK1 hR1 hcc1
  go_wp2_with fail
  refine (kAsk_more _ 64 7 [] g0 g0 lo0 k0 A0 c0 1 0 none 0 [] _ HK1.out (by decide) (by decide) (by decide)).mono ?_
  rintro e w2 ⟨An0, cn0, b0, rfl, hK2, hbn, hk2⟩
  rw [lit_ask] at hK2
  rw [lit_ask]
  have hl1 := HK1.out.lts
  have hbw2 : Below w.heap.size w w2 := hb1.trans (hk2.below hb1.size (by intro j h; rcases h with h | h | h <;> omega))
  have HK2 := Lib.hid hK2
  have HB2 : Hid (w.heap.size ≤ b0 ∧ w.heap.size ≤ g0 ∧ w.heap.size ≤ k0) := Lib.hid (by have := hb1.size; omega)
  clear hK2 hk2 hbn HK1 hl1 hb1
  go_wp2_with fail
  refine (quoteMake_any 1 9 7920 0 0 0 0 0 0 0 0 0 _).mono ?_
  rintro e w3 ⟨he, hb3⟩
  obtain rfl := he _ L2.out.symm
  clear he
  rw [L1.out]
  simp only
  have HK3 := Lib.hid ((HK2.out.below hb3).below (grow_alloc (grow_refl _) (.cells #[.int .i64 7920, .int .i64 0, .int .i64 d1, .int .i64 p1, .int .i64 a1] 53)))
  have hbw3 : Below w.heap.size w (w3.alloc (.cells #[.int .i64 7920, .int .i64 0, .int .i64 d1, .int .i64 p1, .int .i64 a1] 53)) := grow_alloc (grow_step hbw2 hb3) _
  clear hb3 HK2
  go_wp2_with fail
  refine (kGive_ok _ 64 7 [] g0 b0 lo0 k0 A0 c0 7920 (0 + 1) An0 cn0 ([] ++ [7920]) 0 HK3.out (by decide) (by decide) 7920 0 d1 p1 a1 none [] 0 (EvsAt.nil_ _ _) (by decide) (fun a ha => by cases ha) (by decide) (by simp) (by decide) L3.out).mono ?_
  rintro e w4 ⟨rfl, hK4, hk4⟩
  have HK4 := Lib.hid hK4
  have hbw4 : Below w.heap.size w w4 := hbw3.trans (hk4.below hbw3.size (by intro j h; have := HB2.out; rcases h with h | h | h <;> omega))
  clear hK4 hk4 HK3
  go_wp2_with (go_at_call 29; refine (kGiven_any _ 64 7 [] g0 b0 lo0 k0 A0 c0 _ _ An0 cn0 _ _ HK4.out).mono ?_; rintro e w' ⟨rfl, rfl⟩)
  clear HK4 HB2 hbw2 hbw3
  refine (public_any x _).mono ?_
  rintro e w5 ⟨rfl, rfl⟩
  cases hx : okSecret x
  · rw [pubE_no hx]
    clear hx
    go_wp2_with fail
    go_ret
    exact ⟨rfl, (by repeat (first | (with_reducible exact grow_refl _) | (with_reducible assumption) | (with_reducible refine grow_alloc ?_ _) | (with_reducible refine grow_set ?_ (by first | exact Nat.le_refl _ | (simp; done) | (simp; omega) | omega) _) | (with_reducible refine grow_drewN ?_ _) | (with_reducible refine grow_drew ?_) | (with_reducible refine grow_step ?_ (by assumption)) | (with_reducible refine grow_base ?_ (by assumption))))⟩
  rw [pubE_yes hx, pubM_yes hx]
  have hin := okIn_pub hx
  obtain ⟨Q, hQ⟩ : ∃ Q, pwI 64 x = Q := ⟨_, rfl⟩
  rw [hQ] at hin ⊢
  have HQ := Lib.hid hQ
  clear hx hQ
  cases hs : (okM s && okM z)
  · go_wp2_with fail
    refine (keeperNew_off Q s z A2 rs rc _ (by rw [hin, Bool.true_and]; exact hs)).mono ?_
    rintro e w6 ⟨rfl, hb6⟩
    go_wp2_with fail
    go_ret
    exact ⟨rfl, (by repeat (first | (with_reducible exact grow_refl _) | (with_reducible assumption) | (with_reducible refine grow_alloc ?_ _) | (with_reducible refine grow_set ?_ (by first | exact Nat.le_refl _ | (simp; done) | (simp; omega) | omega) _) | (with_reducible refine grow_drewN ?_ _) | (with_reducible refine grow_drew ?_) | (with_reducible refine grow_step ?_ (by assumption)) | (with_reducible refine grow_base ?_ (by assumption))))⟩
  obtain ⟨s1, s2⟩ := Bool.and_eq_true_iff.1 hs
  clear hs
  by_cases hr : rulesE rs = 0
  rotate_left
  · have HRN := Lib.hid hr
    obtain ⟨E, hE⟩ : ∃ E, rulesE rs = E := ⟨_, rfl⟩
    have HE := Lib.hid hE
    have t : (E != 0) = true := by rw [← hE]; simp [hr]
    clear hr hE
    go_wp2_with fail
    refine (keeperNew_rules Q s z A2 rs rc _ hin s1 s2 (HR.out.below hbw4) hrc E HE.out (by rw [← HE.out]; exact HRN.out) (by omega) HL.out).mono ?_
    rintro e w6 ⟨rfl, hb6⟩
    go_wp2_with fail
    go_ret
    exact ⟨rfl, (by repeat (first | (with_reducible exact grow_refl _) | (with_reducible assumption) | (with_reducible refine grow_alloc ?_ _) | (with_reducible refine grow_set ?_ (by first | exact Nat.le_refl _ | (simp; done) | (simp; omega) | omega) _) | (with_reducible refine grow_drewN ?_ _) | (with_reducible refine grow_drew ?_) | (with_reducible refine grow_step ?_ (by assumption)) | (with_reducible refine grow_base ?_ (by assumption))))⟩
  obtain ⟨hr8, hrok⟩ := rulesE_ok hr
  have HRE := Lib.hid hr
  have HR8 : Hid (rs.length ≤ 1000000 ∧ ∀ r ∈ rs, r.2.length ≤ 1000000) := Lib.hid ⟨by omega, fun r h => by have := (hrok r h).2; omega⟩
  have hr6 : rs.length ≤ 1000000 := by omega
  clear hr hrok hr8
  go_wp2_with fail
  refine (keeperNew_on Q s z A2 rs rc _ hin s1 s2 (HR.out.below hbw4) hrc HRE.out HR8.out.1 HR8.out.2).mono ?_
  rintro e w6 ⟨g, lo, k1, A', c', rfl, hN1, hK1, hcc1, hR1, hg1, hg2, hg3, hb6⟩
  have HK6 : Hid (KeptAt w6 Q s rs g g lo k1 A' c' z 0 none 0 [] ((0 : Nat) : Int)) := Lib.hid ⟨NonceIs.new hN1, hK1, hR1, hg2, hg3, Or.inl rfl, hcc1⟩
  have hbw6 : Below w.heap.size w w6 := grow_step hbw4 hb6
  have hgw : w.heap.size ≤ g := Nat.le_trans hbw4.size hg1
  clear hN1 hK1 hR1 hcc1 hg1 hb6
  go_wp2_with fail
  refine (replay_any A ec es _ (HA.out.below hbw6) (by omega)).mono ?_
  rintro e w7 ⟨y0, y1, y2, y3, y4, y5, y6, y7, hy, rfl, hb7⟩
  have HK7 := Lib.hid (HK6.out.below hb7)
  have hbw7 : Below w.heap.size w w7 := grow_step hbw6 hb7
  clear hb7 HK6
  by_cases h0 : evE es = 0
  rotate_left
  · have t : (evE es != 0) = true := by simp [h0]
    obtain ⟨E, hE⟩ : ∃ E, evE es = E := ⟨_, rfl⟩
    rw [hE] at t ⊢
    clear h0 hE hy
    go_wp2_with fail
    go_ret
    exact ⟨rfl, (by repeat (first | (with_reducible exact grow_refl _) | (with_reducible assumption) | (with_reducible refine grow_alloc ?_ _) | (with_reducible refine grow_set ?_ (by first | exact Nat.le_refl _ | (simp; done) | (simp; omega) | omega) _) | (with_reducible refine grow_drewN ?_ _) | (with_reducible refine grow_drew ?_) | (with_reducible refine grow_step ?_ (by assumption)) | (with_reducible refine grow_base ?_ (by assumption))))⟩
  have HEV := Lib.hid h0
  have HY := Lib.hid (all_evBankO hy h0)
  rw [h0]
  clear hy h0
  have HYB := Lib.hid (Box.new w7 38 #[.int .i64 y0, .int .i64 y1, .int .i64 y2, .int .i64 y3, .int .i64 y4, .int .i64 y5, .int .i64 y6, .int .i64 y7])
  have HK7a := Lib.hid (HK7.out.below (grow_alloc (grow_refl _) (.cells #[.int .i64 y0, .int .i64 y1, .int .i64 y2, .int .i64 y3, .int .i64 y4, .int .i64 y5, .int .i64 y6, .int .i64 y7] 38)))
  have hbw7a : Below w.heap.size w (w7.alloc (.cells #[.int .i64 y0, .int .i64 y1, .int .i64 y2, .int .i64 y3, .int .i64 y4, .int .i64 y5, .int .i64 y6, .int .i64 y7] 38)) := grow_alloc hbw7 _
  have hgY : k1 < w7.heap.size := HK7.out.lts.2.2.1
  have hgY2 : g < w7.heap.size := HK7.out.box.lt |> fun h => by have := HK7.out.lts; omega
  clear HK7
  go_wp2_with fail
  obtain ⟨E2, hE2⟩ : ∃ E2, mkE x k z m [y0, y1, y2, y3, y4, y5, y6, y7] = E2 := ⟨_, rfl⟩
  have HE2 := Lib.hid hE2
  obtain ⟨⟨v1, v2, v3, v4, v5⟩, hv⟩ : ∃ v, mkV x k z m [y0, y1, y2, y3, y4, y5, y6, y7] = v := ⟨_, rfl⟩
  have HV := Lib.hid hv
  refine (quoteMake_any x k z m y0 y1 y2 y3 y4 y5 y6 y7 _).mono ?_
  rintro e w8 ⟨he, hb8⟩
  obtain rfl := he _ HV.out.symm
  clear he
  rw [hE2]
  simp only
  clear hE2 hv
  have HYB8 := Lib.hid (HYB.out.below hb8)
  have HK8 := Lib.hid (HK7a.out.below hb8)
  have hbw8 : Below w.heap.size w w8 := grow_step hbw7a hb8
  clear hb8 HYB HK7a
  by_cases h2 : E2 = 0
  rotate_left
  · have t : (E2 != 0) = true := by simp [h2]
    clear h2
    go_wp2_with fail
    go_ret
    exact ⟨rfl, (by repeat (first | (with_reducible exact grow_refl _) | (with_reducible assumption) | (with_reducible refine grow_alloc ?_ _) | (with_reducible refine grow_set ?_ (by first | exact Nat.le_refl _ | (simp; done) | (simp; omega) | omega) _) | (with_reducible refine grow_drewN ?_ _) | (with_reducible refine grow_drew ?_) | (with_reducible refine grow_step ?_ (by assumption)) | (with_reducible refine grow_base ?_ (by assumption))))⟩
  have HMK := Lib.hid (HE2.out.trans h2)
  subst h2
  have HQ8 := Lib.hid (Box.new w8 53 #[.int .i64 v1, .int .i64 v2, .int .i64 v3, .int .i64 v4, .int .i64 v5])
  have cQ := HQ8.out.cell
  have lQ := HQ8.out.lt
  have hKa := HK8.out.below (grow_alloc (grow_refl _) (.cells #[.int .i64 v1, .int .i64 v2, .int .i64 v3, .int .i64 v4, .int .i64 v5] 53))
  have HKa := Lib.hid hKa
  have HYa := Lib.hid (HYB8.out.alloc_ (.cells #[.int .i64 v1, .int .i64 v2, .int .i64 v3, .int .i64 v4, .int .i64 v5] 53))
  have hbwa : Below w.heap.size w (w8.alloc (.cells #[.int .i64 v1, .int .i64 v2, .int .i64 v3, .int .i64 v4, .int .i64 v5] 53)) := grow_alloc hbw8 _
  have HFE : Hid (∀ b, w.heap.size ≤ b → ∀ a, A = some a → es ≠ [] → ¬ Foot g b a.block) := Lib.hid (fun b hb a ha hx h => by have := evs_lt HA.out hx a ha; rcases h with h | h <;> omega)
  clear hKa HK8 HYB8
  go_wp2_with fail
  clear cQ
  refine (kGive_no _ Q s rs g g lo k1 A' c' z 0 none 0 [] 0 HKa.out (by decide) (by decide) v1 v2 v3 v4 v5 A es ec (HA.out.below hbwa) (by omega) (HFE.out g hgw) HR8.out.1 HR8.out.2 rfl).mono ?_
  rintro e w9 ⟨rfl, hK9, hk9⟩
  have HK9 := Lib.hid hK9
  have HY9 := Lib.hid (HYa.out.but hk9 (by intro h; rcases h with h | h | h <;> omega))
  have hbw9 : Below w.heap.size w w9 := hbwa.trans (hk9.below hbwa.size (by intro j h; rcases h with h | h | h <;> omega))
  clear hK9 hk9 HKa HYa HQ8 lQ
  go_wp2_with fail
  refine (error_any 5 5 _ (HG.out.below hbw9) (i64_small (by decide) (by decide))).mono ?_
  rintro e w10 ⟨rfl, hb10⟩
  have HK10 := Lib.hid (HK9.out.below hb10)
  have HY10 := Lib.hid (HY9.out.below hb10)
  have hbw10 : Below w.heap.size w w10 := grow_step hbw9 hb10
  clear hb10 HK9 HY9
  go_wp2_with fail
  refine (kAsk_more _ Q s rs g g lo k1 A' c' z 0 none 0 [] _ HK10.out s2 (by decide) (by decide)).mono ?_
  rintro e w11 ⟨An, cn, bn, rfl, hK11, hbn, hk11⟩
  have hpm : okM (pairM z ((0 : Nat) : Int)) = true := pairM_ok _ _
  obtain ⟨V, hV⟩ : ∃ V, pairM z ((0 : Nat) : Int) = V := ⟨_, rfl⟩
  rw [hV] at hK11 hpm ⊢
  have hyl := HY10.out.lt
  have hl10 := HK10.out.lts
  have HK11 := Lib.hid hK11
  have HY11 := Lib.hid (HY10.out.but hk11 (by intro h; rcases h with h | h | h <;> omega))
  have hbw11 : Below w.heap.size w w11 := hbw10.trans (hk11.below hbw10.size (by intro j h; rcases h with h | h | h <;> omega))
  have HBN : Hid (w.heap.size ≤ bn ∧ bn < w11.heap.size ∧ bn ≠ w7.heap.size) := Lib.hid ⟨by have := hbw10.size; omega, hK11.lts.2.2.2, by omega⟩
  have cY := HY11.out.cell
  have lY := HY11.out.lt
  clear hV hK11 hbn hk11 HK10 HY10 hyl hl10
  go_wp2_with fail
  clear cY
  have hmk2 := mk_again (c := V) HMK.out hpm
  have HMK2 := Lib.hid hmk2
  clear hmk2
  have hmo := make_ok HMK2.out
  obtain ⟨⟨u1, u2, u3, u4, u5⟩, hu⟩ : ∃ v, mkV x k V m [y0, y1, y2, y3, y4, y5, y6, y7] = v := ⟨_, rfl⟩
  have HU := Lib.hid hu
  have HVV : Hid (u1 = V ∧ u2 = m ∧ u3 = isM (evBank es) m ∧ u4 = sgP x k (rowM [V, m, isM (evBank es) m]) ∧ u5 = sgA x k (rowM [V, m, isM (evBank es) m])) := Lib.hid (by
    have h3 := hmo.2.2.2.2.2.1
    rw [HU.out, HY.out] at h3
    simpa only [Prod.mk.injEq] using h3)
  clear hmo hu
  refine (quoteMake_any x k V m y0 y1 y2 y3 y4 y5 y6 y7 _).mono ?_
  rintro e w12 ⟨he, hb12⟩
  obtain rfl := he _ HU.out.symm
  clear he
  rw [HMK2.out]
  simp only
  obtain ⟨rfl, rfl, h13, h14, h15⟩ := HVV.out
  have HK12 := Lib.hid (HK11.out.below hb12)
  have hbw12 : Below w.heap.size w w12 := grow_step hbw11 hb12
  have hbn12 : bn < w12.heap.size := Nat.lt_of_lt_of_le HBN.out.2.1 hb12.size
  clear h13 h14 h15 HVV hb12 HK11 HY11 lY
  have HQ12 := Lib.hid (Box.new w12 53 #[.int .i64 u1, .int .i64 u2, .int .i64 u3, .int .i64 u4, .int .i64 u5])
  have HKb := Lib.hid (HK12.out.below (grow_alloc (grow_refl _) (.cells #[.int .i64 u1, .int .i64 u2, .int .i64 u3, .int .i64 u4, .int .i64 u5] 53)))
  have hbwb : Below w.heap.size w (w12.alloc (.cells #[.int .i64 u1, .int .i64 u2, .int .i64 u3, .int .i64 u4, .int .i64 u5] 53)) := grow_alloc hbw12 _
  have hgQ : g < w12.heap.size ∧ k1 < w12.heap.size := by have := HK12.out.lts; omega
  have cQ := HQ12.out.cell
  have lQ := HQ12.out.lt
  clear HK12
  go_wp2_with fail
  clear cQ
  refine (judgeSure_any Q u1 u2 u3 u4 u5 u1 A es ec A2 rs rc _ (HA.out.below hbwb) (by omega) (HR.out.below hbwb) hrc (by omega) HL.out).mono ?_
  rintro e w13 ⟨rfl, hb13⟩
  obtain ⟨E, hE⟩ : ∃ E, sureE Q u1 u2 u3 u4 u5 u1 es rs = E := ⟨_, rfl⟩
  rw [hE]
  have HE := Lib.hid hE
  have HK13 := Lib.hid (HKb.out.below hb13)
  have HQ13 := Lib.hid (HQ12.out.below hb13)
  have hbw13 : Below w.heap.size w w13 := grow_step hbwb hb13
  have cQ := HQ13.out.cell
  have lQ13 := HQ13.out.lt
  have hHA : Hid (hasI ([] ++ [u1]) u1 = true) := Lib.hid (by simp [hasI])
  have hHE : Hid (([] ++ [u1]).erase u1 = []) := Lib.hid (by simp)
  clear hE hb13 HKb HQ12 lQ
  by_cases hE0 : E = 0
  · subst hE0
    go_wp2_with fail
    clear cQ
    refine (kGive_ok _ Q s rs g bn lo k1 A' c' u1 (0 + 1) An cn ([] ++ [u1]) 0 HK13.out (by decide) (by simp) u1 u2 u3 u4 u5 A es ec (HA.out.below hbw13) (by omega) (HFE.out bn HBN.out.1) HR8.out.1 HR8.out.2 hHA.out HE.out).mono ?_
    rintro e w14 ⟨rfl, hK14, hk14⟩
    rw [hHE.out] at hK14
    have HK14 := Lib.hid hK14
    have HQ14 := Lib.hid (HQ13.out.but hk14 (by intro h; rcases h with h | h | h <;> omega))
    have hbw14 : Below w.heap.size w w14 := hbw13.trans (hk14.below hbw13.size (by intro j h; have := HBN.out; rcases h with h | h | h <;> omega))
    have cQ := HQ14.out.cell
    have lQ14 := HQ14.out.lt
    clear hK14 hk14 HK13 HQ13
    go_wp2_with fail
    clear cQ
    refine (kGive_no _ Q s rs g bn lo k1 A' c' u1 (0 + 1) An cn [] (0 + 1) HK14.out (by decide) (by decide) u1 u2 u3 u4 u5 A es ec (HA.out.below hbw14) (by omega) (HFE.out bn HBN.out.1) HR8.out.1 HR8.out.2 rfl).mono ?_
    rintro e w15 ⟨rfl, hK15, hk15⟩
    have HK15 := Lib.hid hK15
    have hbw15 : Below w.heap.size w w15 := hbw14.trans (hk15.below hbw14.size (by intro j h; have := HBN.out; rcases h with h | h | h <;> omega))
    clear hK15 hk15 HK14 HQ14
    go_wp2_with fail
    refine (error_any 5 5 _ (HG.out.below hbw15) (i64_small (by decide) (by decide))).mono ?_
    rintro e w16 ⟨rfl, hb16⟩
    have HK16 := Lib.hid (HK15.out.below hb16)
    have hbw16 : Below w.heap.size w w16 := grow_step hbw15 hb16
    clear hb16 HK15
    go_wp2_with (go_at_call 29; refine (kGiven_any _ Q s rs g bn lo k1 A' c' _ _ An cn _ _ HK16.out).mono ?_; rintro e w' ⟨rfl, rfl⟩)
    go_ret
    exact ⟨by first | rfl | simp, hbw16⟩
  · have t : (E != 0) = true := by simp [hE0]
    have HN0 := Lib.hid hE0
    clear hE0
    go_wp2_with fail
    clear cQ
    refine (kGive_bad _ Q s rs g bn lo k1 A' c' u1 (0 + 1) An cn ([] ++ [u1]) 0 HK13.out (by decide) (by simp) u1 u2 u3 u4 u5 A es ec (HA.out.below hbw13) (by omega) (HFE.out bn HBN.out.1) HR8.out.1 HR8.out.2 hHA.out E HE.out HN0.out).mono ?_
    rintro e w14 ⟨rfl, hK14, hk14⟩
    rw [hHE.out] at hK14
    have HK14 := Lib.hid hK14
    have HQ14 := Lib.hid (HQ13.out.but hk14 (by intro h; rcases h with h | h | h <;> omega))
    have hbw14 : Below w.heap.size w w14 := hbw13.trans (hk14.below hbw13.size (by intro j h; have := HBN.out; rcases h with h | h | h <;> omega))
    have cQ := HQ14.out.cell
    have lQ14 := HQ14.out.lt
    clear hK14 hk14 HK13 HQ13
    go_wp2_with fail
    clear cQ
    refine (kGive_no _ Q s rs g bn lo k1 A' c' u1 (0 + 1) An cn [] 0 HK14.out (by decide) (by decide) u1 u2 u3 u4 u5 A es ec (HA.out.below hbw14) (by omega) (HFE.out bn HBN.out.1) HR8.out.1 HR8.out.2 rfl).mono ?_
    rintro e w15 ⟨rfl, hK15, hk15⟩
    have HK15 := Lib.hid hK15
    have hbw15 : Below w.heap.size w w15 := hbw14.trans (hk15.below hbw14.size (by intro j h; have := HBN.out; rcases h with h | h | h <;> omega))
    clear hK15 hk15 HK14 HQ14
    go_wp2_with fail
    refine (error_any 5 5 _ (HG.out.below hbw15) (i64_small (by decide) (by decide))).mono ?_
    rintro e w16 ⟨rfl, hb16⟩
    have HK16 := Lib.hid (HK15.out.below hb16)
    have hbw16 : Below w.heap.size w w16 := grow_step hbw15 hb16
    clear hb16 HK15
    go_wp2_with (go_at_call 29; refine (kGiven_any _ Q s rs g bn lo k1 A' c' _ _ An cn _ _ HK16.out).mono ?_; rintro e w' ⟨rfl, rfl⟩)
    go_ret
    exact ⟨by first | rfl | simp, hbw16⟩

set_option maxRecDepth 100000 in
theorem keeperOnce_walks (H : Type) (enc : TypeId × Value → H) : WalksD enc Tryd.prog Door 6 Tryd.f6 := by
  intro W base args ds p hval hA hlt hsz hsh hdoor
  have hsz0 := hsz
  rw [Tryd.params6] at hA hval
  obtain ⟨v0, vs0, d0, ds0, p0, q0, hargs, rfl, rfl, h0, r0⟩ := trodAll_cons hA
  obtain ⟨v1, vs1, d1, ds1, p1, q1, rfl, rfl, rfl, h1, r1⟩ := trodAll_cons r0
  obtain ⟨v2, vs2, d2, ds2, p2, q2, rfl, rfl, rfl, h2, r2⟩ := trodAll_cons r1
  obtain ⟨v3, vs3, d3, ds3, p3, q3, rfl, rfl, rfl, h3, r3⟩ := trodAll_cons r2
  obtain ⟨v4, vs4, d4, ds4, p4, q4, rfl, rfl, rfl, h4, r4⟩ := trodAll_cons r3
  obtain ⟨v5, vs5, d5, ds5, p5, q5, rfl, rfl, rfl, h5, r5⟩ := trodAll_cons r4
  obtain ⟨v6, vs6, d6, ds6, p6, q6, rfl, rfl, rfl, h6, r6⟩ := trodAll_cons r5
  obtain ⟨rfl, rfl, rfl⟩ := trodAll_nil r6
  obtain rfl : args = #[v0, v1, v2, v3, v4, v5, v6] := by cases args; simp_all
  obtain ⟨a0, rfl, w0⟩ := op_int (hval 0 3 v0 rfl rfl) h0
  obtain ⟨a1, rfl, w1⟩ := op_int (hval 1 3 v1 rfl rfl) h1
  obtain ⟨a2, rfl, w2⟩ := op_int (hval 2 3 v2 rfl rfl) h2
  obtain ⟨a3, rfl, w3⟩ := op_int (hval 3 3 v3 rfl rfl) h3
  obtain ⟨A4, a4, c4, rfl, w4, z4, y4⟩ := op_evs (hval 4 39 v4 rfl rfl) h4 (fun x hx => hlt x (by simp [hx])) (w_each hsz 4 39 _ (by rw [Tryd.params6]; rfl) rfl)
  obtain ⟨A5, a5, c5, rfl, w5, z5, y5, g5⟩ := op_rules (hval 5 42 v5 rfl rfl) h5 (fun x hx => hlt x (by simp [hx])) (w_each hsz 5 42 _ (by rw [Tryd.params6]; rfl) rfl)
  obtain ⟨a6, rfl, w6⟩ := op_int (hval 6 3 v6 rfl rfl) h6
  exact keeperOnce_walk W a0 a1 a2 a3 A4 a4 c4 A5 a5 c5 a6 w0 w1 w2 w3 w4 z4 y4 w5 z5 y5 g5 w6 hdoor

set_option maxRecDepth 100000 in
theorem keeperOnce_lifted (os : Os) (started : os.Started) (H : Type) (enc : TypeId × Value → H) :
    ReturnsInHanded {} Tryd.checked os 6 .any (fun w args => (Rows.keeperOnceSpec.pre enc Tryd.checked.prog Tryd.f6 [] false w args ∧ laidMetH Tryd.checked.prog LaidD w) ∧ sizedMet enc Tryd.checked.prog Tryd.f6 (OpenSpec.ofChange Rows.keeperOnceSpec) false w args) (Rows.keeperOnceSpec.post enc Tryd.checked.prog Tryd.f6 false true false false) :=
  returns_of_walkD (C := Tryd.checked) (s := Rows.keeperOnceSpec) (L := LaidD) (D := Door) own started (by kernel_rfl) Tryd.func6
    (ChangeSpec.witness_at (enc := enc) (C := Tryd.checked) (os := os) (X := fun w _ => laidMetH Tryd.prog LaidD w) false (laidWorld os) #[.int .i64 0, .int .i64 0, .int .i64 0, .int .i64 0, .slice none 0 0, .slice none 0 0, .int .i64 0] 8 rfl (by kernel_rfl) (by kernel_rfl) (by kernel_rfl) (by kernel_rfl) (by kernel_rfl) (laidWorld_met os _))
    (fun W h => door_of_laid h) laidOut (by kernel_rfl) rfl Tryd.underlying4 rfl (fun ds h => by match ds, h with | [_, _, _, _, _, _, _], _ => rfl) (keeperOnce_walks H enc)

theorem keeperOnce_bare : Rows.KeeperOnceSaid :=
  OpenClaim.holds_of_wide 6 Tryd.f6 rfl rfl rfl rfl rfl rfl rfl ⟨rfl, rfl, rfl, rfl, rfl⟩ rfl rfl rfl rfl rfl (by kernel_rfl) Tryd.func6 (by kernel_rfl)
    (of_decide_eq_true (by kernel_rfl)) (by unfold Func.isWrapper; rw [if_neg (of_decide_eq_false (by kernel_rfl))]; exact ⟨rfl, rfl⟩)
    (fun os started H enc _ => keeperOnce_lifted os started H enc)

theorem keeperOnce_holds : Rows.KeeperOnceCardSaid :=
  Claim7.holds_tied_plain_at .later [] [.handle] true Rows.keeperOnceCard.stood.harness true
    keeperOnce_bare (fun _ h => by cases h) (by kernel_rfl) (fun _ h => by cases h) keeperOnce_row_tie rfl ⟨rfl, rfl⟩ (by kernel_rfl) rfl
    (fun f fn hf hfn => by
      obtain rfl : f = 6 := Option.some.inj ((show Tryd.prog.funcNamed "bootstair/stairlaw2.KeeperOnce" = some 6 by kernel_rfl).symm.trans hf) |>.symm
      obtain rfl : fn = Tryd.f6 := (Option.some.inj (Tryd.func6.symm.trans hfn)).symm
      exact ⟨by kernel_rfl, fun j t ht => by
        have hm : t ∈ Tryd.f6.params.toList := by simpa using Array.mem_of_getElem? ht
        have hall : (Tryd.f6.params.toList.all fun u => !Tryd.prog.wantsStandIn u) = true := by kernel_rfl
        exact (show Tryd.prog.wantsStandIn t = false by simpa using List.all_eq_true.1 hall t hm)⟩)
    (by kernel_rfl)

end Go.Proofs.YtdedllfgeekogaaDoor
