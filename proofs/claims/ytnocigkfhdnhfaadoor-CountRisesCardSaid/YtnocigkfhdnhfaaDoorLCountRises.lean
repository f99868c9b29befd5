/- CountRises: a least version only rises. The package variable errors.errorType holds what the program's text lays. -/
import Derived.Test.YtnocigkfhdnhfaaDoorRows
import Derived.Test.YtnocigkfhdnhfaaDoorOpen
import Derived.Test.YtnocigkfhdnhfaaDoorImg
import Derived.Test.YtnocigkfhdnhfaaDoorCount3
import Derived.Test.YtnocigkfhdnhfaaDoorTold
import Derived.Test.YtnocigkfhdnhfaaDoorBds
import Derived.Test.YtnocigkfhdnhfaaDoorLiftD
import Derived.WalkKit
import Derived.WalkSpells
import Derived.Lib.Hide
namespace Go.Proofs.YtnocigkfhdnhfaaDoor
open Go.ChangeShapes Go.WideShapes Go.ChangeAt Go.RowKit
set_option linter.unusedVariables false
set_option maxRecDepth 100000

abbrev osn : ByteArray := { data := #[111, 115] }
theorem os_ok : okName osn = true := by decide
theorem new_one (w : World) :
    Calls Tryd.prog 17 #[] w fun e w' => ∃ b : Nat, e = .returned (.pointer (some ⟨b + 1, 0, none⟩)) ∧ w.heap.size ≤ b ∧ b + 1 < w'.heap.size ∧ CountE w' b 0 (fun _ => false) (fun _ => 0) 0 ∧ Below w.heap.size w w' := by
  refine (countNewE_any w).mono ?_
  rintro e w' ⟨rfl, h, hb⟩
  refine ⟨_, rfl, Nat.le_refl _, ?_, h, hb⟩
  obtain ⟨D, h1, _⟩ := h
  exact h1.lt
def up (l : List Int) (k : Nat) : Int := (l.take k).foldl (fun a x => max a (gOf x)) 0
theorem up_succ (l : List Int) (k : Nat) (h : k < l.length) : up l (k + 1) = max (up l k) (gOf (l.getD k 0)) := by
  unfold up
  rw [List.take_succ_eq_append_getElem h, List.foldl_append, List.getD_eq_getElem?_getD, List.getElem?_eq_getElem h]
  rfl
theorem up_zero (l : List Int) : up l 0 = 0 := by unfold up; simp
theorem gOf_okE (y : Int) : 0 ≤ gOf y ∧ (okE y = 0 ∨ (okE y = 1 ∧ gOf y = 0)) := by
  unfold gOf okE
  by_cases h : okV y = true
  · rw [if_pos h, if_pos h]
    have : 0 ≤ y ∧ y ≤ 1000 := of_decide_eq_true h
    exact ⟨this.1, Or.inl rfl⟩
  · rw [if_neg h, if_neg h]
    exact ⟨by decide, Or.inr ⟨rfl, rfl⟩⟩
theorem up_pos (l : List Int) (k : Nat) : 0 ≤ up l k := by
  unfold up
  generalize l.take k = r
  have : ∀ (r : List Int) (a : Int), 0 ≤ a → 0 ≤ r.foldl (fun a x => max a (gOf x)) a := by
    intro r
    induction r with
    | nil => intro a h; exact h
    | cons x r ih => intro a h; exact ih _ (Int.le_trans h (Int.le_max_left _ _))
  exact this r 0 (Int.le_refl _)

set_option maxHeartbeats 8000000 in
theorem countRises_walk (w : World) (s : ByteArray) (A : Option Addr) (l : List Int) (c : Nat) (v : Int) (hz : s.size ≤ 140737488351232) (hA : IntsAt w A l) (hi : ∀ x ∈ l, I64 x) (hl : l.length * 8 ≤ 140737488351232) (iv : I64 v) (hg : Door w) :
    Calls Tryd.prog 5 #[.string s, .slice A l.length c, .int .i64 v] w fun e w' => e = .returned (.bool true) ∧ Below w.heap.size w w' := by
  have en := fun k w => err_neq k w
  have ee := fun k w => err_eql k w
  have gn := fun o k w => err_guard_neq o k w
  have ge := fun o k w => err_guard_eql o k w
  have HG := Lib.hid hg
  have HA := Lib.hid hA
  clear hg hA hi
  go_enter Tryd.func5, Tryd.ntmps5
  go_wp2_with fail
  refine (new_one _).mono ?_
  rintro e w1 ⟨b1, rfl, hl1, hm1, hC1, hb1⟩
  have H1 := Lib.hid (OneIs.zero osn hC1)
  have HL1 := Lib.hid hl1
  clear hC1 hm1 hl1
  go_wp2_with fail
  refine (raise_one b1 osn 0 5 0 _ H1.out os_ok (by decide)).mono ?_
  rintro e w2 ⟨rfl, hC2, hf2⟩
  rw [show decide ((0 : Int) < gOf 5) = true from by decide, show okE 5 = 0 from by decide]
  have H2 : Hid (OneIs w2 b1 osn 5 1) := Lib.hid (by have e : max 0 (gOf 5) = 5 := by decide
                                                     rw [e] at hC2; exact hC2)
  have hb2 : Below w.heap.size w w2 := hb1.trans (hf2.below hb1.size (fun k hk => by have := HL1.out; omega))
  clear hC2 hf2 H1 hb1
  go_wp2_with fail
  refine (raise_one b1 osn 5 3 1 _ H2.out os_ok (by decide)).mono ?_
  rintro e w3 ⟨rfl, hC3, hf3⟩
  rw [show decide ((5 : Int) < gOf 3) = false from by decide, show okE 3 = 0 from by decide]
  have H3 : Hid (OneIs w3 b1 osn 5 2) := Lib.hid (by have e : max 5 (gOf 3) = 5 := by decide
                                                     rw [e] at hC3; exact hC3)
  have hb3 : Below w.heap.size w w3 := hb2.trans (hf3.below hb2.size (fun k hk => by have := HL1.out; omega))
  clear hC3 hf3 H2 hb2 HL1
  go_wp2_with fail
  refine (may_one b1 osn 5 4 2 _ H3.out os_ok).mono ?_
  rintro e w4 ⟨rfl, hb⟩
  rw [show mayK 5 4 = 9 from by decide]
  have H4 := Lib.hid (H3.out.below hb)
  have hb4 : Below w.heap.size w w4 := grow_step hb3 hb
  clear hb hb3 H3
  go_wp2_with fail
  refine (error_any 9 9 _ (HG.out.below hb4) (i64_small (by decide) (by decide))).mono ?_
  rintro e w5 ⟨rfl, hb⟩
  have H5 := Lib.hid (H4.out.below hb)
  have hb5 : Below w.heap.size w w5 := grow_step hb4 hb
  clear hb hb4 H4
  go_wp2_with fail
  refine (may_one b1 osn 5 5 2 _ H5.out os_ok).mono ?_
  rintro e w6 ⟨rfl, hb⟩
  rw [show mayK 5 5 = 0 from by decide]
  have hb6 : Below w.heap.size w w6 := grow_step hb5 hb
  clear hb hb5 H5
  go_wp2_with fail
  refine (new_one _).mono ?_
  rintro e w7 ⟨b2, rfl, hl2, hm2, hC2, hb⟩
  have hb7 : Below w.heap.size w w7 := grow_step hb6 hb
  have HL2 : Hid (w.heap.size ≤ b2) := Lib.hid (Nat.le_trans hb6.size hl2)
  have HM2 := Lib.hid hm2
  have HC2 := Lib.hid hC2
  clear hb hb6 hl2 hm2 hC2
  go_wp2_with fail
  refine (new_one _).mono ?_
  rintro e w8 ⟨b3, rfl, hl3, hm3, hC3, hb⟩
  have hb8 : Below w.heap.size w w8 := grow_step hb7 hb
  have HBB : Hid (w.heap.size ≤ b2 ∧ b2 + 1 < b3) := Lib.hid ⟨HL2.out, Nat.lt_of_lt_of_le HM2.out hl3⟩
  have HO := Lib.hid (OneIs.zero s (HC2.out.below hb))
  have HP := Lib.hid (OneIs.zero s hC3)
  have HB := Lib.hid hb8
  clear hb hb7 hl3 hm3 hC3 hb8 HC2 HM2 HL2
  cases hok : okName s
  · have HOK := Lib.hid hok
    clear hok
    go_wp2_with fail
    go_loopw [15, 16, 17, 18, 19, 20, 21] (fun t i _ _ _ _ _ wr => t = .int .i64 0 ∧ i = .int .i64 0 ∧ Hid (Below w.heap.size w wr)) (fun _ _ _ _ _ _ _ _ => 0)
    case atStart => exact ⟨rfl, rfl, HB⟩
    case round =>
      clear HB
      obtain ⟨rfl, rfl, HB⟩ := hrel
      by_cases hlt : 0 < l.length
      · have g0 : (0 : Int) < (l.length : Int) := by omega
        go_wp2_with fail
        refine (least_bad _ s _ HOK.out (by omega)).mono ?_
        rintro e w9 ⟨rfl, hb9⟩
        have hb10 := grow_step HB.out hb9
        clear HB hb9
        go_wp2_with fail
        refine (error_any 3 3 _ (HG.out.below hb10) (i64_small (by decide) (by decide))).mono ?_
        rintro e w10 ⟨rfl, hb11⟩
        go_wp2_with fail
        go_ret
        exact ⟨rfl, grow_step hb10 hb11⟩
      · obtain rfl : l = [] := List.eq_nil_of_length_eq_zero (by omega)
        go_wp2_with fail
        go_loopw [22] (fun i wr => i = .int .i64 (-1) ∧ Hid (Below w.heap.size w wr)) (fun _ _ => 0)
        case atStart => exact ⟨rfl, HB⟩
        case round =>
          clear HB
          obtain ⟨rfl, HB⟩ := hrel
          go_wp2_with fail
          refine (least_bad _ s _ HOK.out (by omega)).mono ?_
          rintro e w9 ⟨rfl, hb9⟩
          have hb10 := grow_step HB.out hb9
          clear HB hb9
          go_wp2_with fail
          refine (error_any 3 3 _ (HG.out.below hb10) (i64_small (by decide) (by decide))).mono ?_
          rintro e w10 ⟨rfl, hb11⟩
          go_wp2_with fail
          go_ret
          exact ⟨rfl, grow_step hb10 hb11⟩
  · have HOK := Lib.hid hok
    clear hok
    go_wp2_with fail
    go_loopw [15, 16, 17, 18, 19, 20, 21] (fun t i _ _ _ _ _ wr => ∃ (k : Nat) (cur : Int), k ≤ l.length ∧ k ≤ 40 ∧ i = .int .i64 k ∧ t = .int .i64 cur ∧ Hid (cur = up l k) ∧ Hid (OneIs wr b2 s cur k) ∧ Hid (OneIs wr b3 s 0 0) ∧ Hid (Below w.heap.size w wr)) (fun _ i _ _ _ _ _ _ => l.length - (intOf i).toNat)
    case atStart => exact ⟨0, 0, by omega, by omega, rfl, rfl, Lib.hid (up_zero l).symm, HO, HP, HB⟩
    case round =>
      clear HB HO HP
      obtain ⟨k, cur, hk, hk4, rfl, rfl, HC, HO, HP, HB⟩ := hrel
      by_cases hgo : k < l.length ∧ k < 40
      · have g0 : (k : Int) < (l.length : Int) := by omega
        have g1 : (k : Int) < 40 := by omega
        have hkl := hgo.1
        have hk40 := hgo.2
        clear hgo
        obtain ⟨y, hy⟩ : ∃ y, l.getD k 0 = y := ⟨_, rfl⟩
        have hup : max cur (gOf y) = up l (k + 1) := by rw [up_succ l k hkl, hy, ← HC.out]
        have HUP := Lib.hid hup
        have HCU := Lib.hid (show 0 ≤ cur by rw [HC.out]; exact up_pos _ _)
        clear hup
        go_wp2_with fail
        refine (least_one b2 s cur k _ HO.out HOK.out).mono ?_
        rintro e w9 ⟨rfl, hb9⟩
        have HO9 := Lib.hid (HO.out.below hb9)
        have HP9 := Lib.hid (HP.out.below hb9)
        have HB9 := Lib.hid (grow_step HB.out hb9)
        clear HO HP HB hb9 HC
        obtain ⟨b0, off, rfl, _, hc⟩ := (HA.out.below HB9.out) k hkl
        rw [hy] at hc
        clear hy
        go_wp2_with fail
        refine (raise_one b2 s cur y k _ HO9.out HOK.out (by omega)).mono ?_
        rintro e w10 ⟨rfl, hC10, hf10⟩
        have HO10 := Lib.hid hC10
        have HP10 := Lib.hid (HP9.out.but hf10 (by have := HBB.out; omega) (by have := HBB.out; omega))
        have HB10 := Lib.hid (HB9.out.trans (hf10.below HB9.out.size (fun k hk => by have := HBB.out; omega)))
        clear hC10 hf10 HO9 HP9 HB9 hc
        obtain ⟨g0y, hE⟩ := gOf_okE y
        by_cases hlt : cur < gOf y
        · have hz0 : okE y = 0 := by
            rcases hE with h | ⟨_, h⟩
            · exact h
            · have := HCU.out; omega
          obtain ⟨z, hz⟩ : ∃ z, gOf y = z := ⟨_, rfl⟩
          rw [hz] at hlt HUP HO10 ⊢
          rw [hz0, decide_eq_true hlt]
          have hmx : max cur z = z := by omega
          rw [hmx] at HUP HO10
          have hnl : ¬ (z < cur) := by omega
          clear hz0 hz hmx hE g0y
          go_wp2_with fail
          refine (least_one b2 s z (k + 1) _ HO10.out HOK.out).mono ?_
          rintro e w11 ⟨rfl, hb11⟩
          have HO11 := Lib.hid (HO10.out.below hb11)
          have HP11 := Lib.hid (HP10.out.below hb11)
          have HB11 := Lib.hid (grow_step HB10.out hb11)
          clear HO10 HP10 HB10 hb11
          go_wp2_with fail
          go_roundw
          case rel => exact ⟨k + 1, z, by omega, by omega, by go_num, rfl, HUP, HO11, HP11, HB11⟩
          case measure => simp [intOf]; omega
        · have hmx : max cur (gOf y) = cur := by omega
          rw [decide_eq_false hlt]
          rw [hmx] at HUP HO10
          have hnl : ¬ (cur < cur) := by omega
          have hE2 : okE y = 0 ∨ okE y = 1 := by rcases hE with h | ⟨h, _⟩ <;> simp [h]
          clear hmx hE g0y hlt
          rcases hE2 with hz0 | hz0
          all_goals
            rw [hz0]
            clear hz0
            go_wp2_with fail
            refine (least_one b2 s cur (k + 1) _ HO10.out HOK.out).mono ?_
            rintro e w11 ⟨rfl, hb11⟩
            have HO11 := Lib.hid (HO10.out.below hb11)
            have HP11 := Lib.hid (HP10.out.below hb11)
            have HB11 := Lib.hid (grow_step HB10.out hb11)
            clear HO10 HP10 HB10 hb11
            go_wp2_with fail
            go_roundw
            case rel => exact ⟨k + 1, cur, by omega, by omega, by go_num, rfl, HUP, HO11, HP11, HB11⟩
            case measure => simp [intOf]; omega
      · have hcur : cur = up l (min l.length 40) := by
          rw [HC.out]
          rcases Nat.lt_or_ge k l.length with h | h
          · have : k = 40 := by omega
            rw [show min l.length 40 = k by omega]
          · rw [show min l.length 40 = k by omega]
        have hex : ((l.length : Int) ≤ k) ∨ ((k : Int) < l.length ∧ ¬ ((k : Int) < 40)) := by omega
        have HCU := Lib.hid hcur
        have H0 := Lib.hid (show 0 ≤ cur by rw [hcur]; exact up_pos _ _)
        clear hcur hgo HC
        rcases hex with g0 | ⟨g0, g1⟩
        all_goals
          go_wp2_with fail
          go_loopw [22] (fun i wr => ∃ (j n : Nat) (q cd : Int), i = .int .i64 q ∧ q = (j : Int) - 1 ∧ Hid (j ≤ l.length) ∧ Hid (max (up l (min j 40)) cd = cur) ∧ Hid (0 ≤ cd) ∧ Hid (n + min j 40 ≤ 40) ∧ Hid (OneIs wr b2 s cur k) ∧ Hid (OneIs wr b3 s cd n) ∧ Hid (Below w.heap.size w wr)) (fun i _ => (intOf i + 1).toNat)
          case atStart => exact ⟨l.length, 0, _, 0, rfl, rfl, Lib.hid (Nat.le_refl _), Lib.hid (by rw [HCU.out] at H0 ⊢; have := H0.out; omega), Lib.hid (Int.le_refl _), Lib.hid (by omega), HO, HP, HB⟩
          case round =>
            clear HB HP HO
            obtain ⟨j, n, q, cd, rfl, hq, HJ, HM, HD, HN, HO, HP, HB⟩ := hrel
            cases j with
            | zero =>
              obtain rfl : q = -1 := by omega
              have hcd : cd = cur := by have := HM.out; have h0 := HD.out; rw [show min 0 40 = 0 from rfl, up_zero] at this; omega
              subst hcd
              clear hq
              go_wp2_with fail
              refine (least_one b2 s cd k _ HO.out HOK.out).mono ?_
              rintro e w8 ⟨rfl, hb8⟩
              have HO8 := Lib.hid (HO.out.below hb8)
              have HP8 := Lib.hid (HP.out.below hb8)
              have HB8 := Lib.hid (grow_step HB.out hb8)
              clear HO HP HB hb8
              go_wp2_with fail
              refine (least_one b3 s cd n _ HP8.out HOK.out).mono ?_
              rintro e w9 ⟨rfl, hb9⟩
              have HO9 := Lib.hid (HO8.out.below hb9)
              have HB9 := Lib.hid (grow_step HB8.out hb9)
              clear HO8 HP8 HB8 hb9
              go_wp2_with fail
              refine (may_one b2 s cd v k _ HO9.out HOK.out).mono ?_
              rintro e w10 ⟨rfl, hb10⟩
              have HB10 := Lib.hid (grow_step HB9.out hb10)
              clear HO9 HB9 hb10
              by_cases v1 : v < 1
              · have hm : mayK cd v = 1 := by unfold mayK; rw [if_pos (Or.inl v1)]
                rw [hm]
                clear hm
                go_wp2_with fail
                refine (error_any 1 1 _ (HG.out.below HB10.out) (i64_small (by decide) (by decide))).mono ?_
                rintro e w11 ⟨rfl, hb11⟩
                go_wp2_with fail
                go_ret
                exact ⟨rfl, grow_step HB10.out hb11⟩
              by_cases v2 : v > 1000
              · have hm : mayK cd v = 1 := by unfold mayK; rw [if_pos (Or.inr (by omega))]
                rw [hm]
                clear hm
                go_wp2_with fail
                refine (error_any 1 1 _ (HG.out.below HB10.out) (i64_small (by decide) (by decide))).mono ?_
                rintro e w11 ⟨rfl, hb11⟩
                go_wp2_with fail
                go_ret
                exact ⟨rfl, grow_step HB10.out hb11⟩
              by_cases v3 : v < cd
              · have hm : mayK cd v = 9 := by unfold mayK; rw [if_neg (by omega), if_pos v3]
                rw [hm]
                clear hm
                have v4 : ¬ (v ≥ cd) := by omega
                go_wp2_with fail
                refine (error_any 9 9 _ (HG.out.below HB10.out) (i64_small (by decide) (by decide))).mono ?_
                rintro e w11 ⟨rfl, hb11⟩
                go_wp2_with fail
                go_ret
                exact ⟨rfl, grow_step HB10.out hb11⟩
              · have hm : mayK cd v = 0 := by unfold mayK; rw [if_neg (by omega), if_neg v3]
                rw [hm]
                clear hm
                have v4 : v ≥ cd := by omega
                go_wp2_with fail
                go_ret
                exact ⟨rfl, HB10.out⟩
            | succ j =>
              obtain rfl : q = (j : Int) := by omega
              have hjl : j < l.length := by have := HJ.out; omega
              clear hq
              have HJ2 : Hid (j ≤ l.length) := Lib.hid (by omega)
              by_cases g4 : j < 40
              · have g5 : (j : Int) < 40 := by omega
                obtain ⟨y, hy⟩ : ∃ y, l.getD j 0 = y := ⟨_, rfl⟩
                have hM2 : max (up l (min j 40)) (max cd (gOf y)) = cur := by
                  have h1 := HM.out
                  have h2 := up_succ l j hjl
                  rw [show min (j + 1) 40 = j + 1 by omega, h2, hy] at h1
                  rw [show min j 40 = j by omega]
                  omega
                have HM2 := Lib.hid hM2
                have hD2 : 0 ≤ max cd (gOf y) := by have := HD.out; omega
                have HD2 := Lib.hid hD2
                have hN2 : n + 1 + min j 40 ≤ 40 := by have := HN.out; omega
                have HN2 := Lib.hid hN2
                obtain ⟨b0, off, rfl, _, hc⟩ := (HA.out.below HB.out) j hjl
                rw [hy] at hc
                clear hM2 hD2 hN2 hy HM HD
                go_wp2_with fail
                refine (raise_one b3 s cd y n _ HP.out HOK.out (by have := HN.out; omega)).mono ?_
                rintro e w8 ⟨rfl, hC8, hf8⟩
                have HP8 := Lib.hid hC8
                have HO8 := Lib.hid (HO.out.but hf8 (by have := HBB.out; omega) (by have := HBB.out; omega))
                have HB8 := Lib.hid (HB.out.trans (hf8.below HB.out.size (fun k hk => by have := HBB.out; omega)))
                clear hC8 hf8 HP HO HB HN hc
                go_wp2_with fail
                go_roundw
                case rel => exact ⟨j, n + 1, _, _, by go_num, rfl, HJ2, HM2, HD2, HN2, HO8, HP8, HB8⟩
                case measure => first | (simp [intOf]; done) | (simp [intOf]; omega)
              · have g5 : ¬ ((j : Int) < 40) := by omega
                have HM2 : Hid (max (up l (min j 40)) cd = cur) := Lib.hid (by have := HM.out; rw [show min (j + 1) 40 = 40 by omega] at this; rw [show min j 40 = 40 by omega]; exact this)
                have HN2 : Hid (n + min j 40 ≤ 40) := Lib.hid (by have := HN.out; omega)
                clear HM HN
                go_wp2_with fail
                go_roundw
                case rel => exact ⟨j, n, _, cd, by go_num, rfl, HJ2, HM2, HD, HN2, HO, HP, HB⟩
                case measure => first | (simp [intOf]; done) | (simp [intOf]; omega)

set_option maxRecDepth 100000 in
theorem countRises_walks (H : Type) (enc : TypeId × Value → H) : WalksD enc Tryd.prog Door 5 Tryd.f5 := by
  intro W base args ds p hval hA hlt hsz hsh hdoor
  have hsz0 := hsz
  rw [Tryd.params5] at hA hval
  obtain ⟨v0, vs0, d0, ds0, p0, q0, hargs, rfl, rfl, h0, r0⟩ := trodAll_cons hA
  obtain ⟨v1, vs1, d1, ds1, p1, q1, rfl, rfl, rfl, h1, r1⟩ := trodAll_cons r0
  obtain ⟨v2, vs2, d2, ds2, p2, q2, rfl, rfl, rfl, h2, r2⟩ := trodAll_cons r1
  obtain ⟨rfl, rfl, rfl⟩ := trodAll_nil r2
  obtain rfl : args = #[v0, v1, v2] := by cases args; simp_all
  obtain ⟨a0, rfl, w0⟩ := op_str (hval 0 9 v0 rfl rfl) h0 (w_each hsz 0 9 _ (by rw [Tryd.params5]; rfl) rfl)
  obtain ⟨A1, a1, c1, rfl, w1, i1, z1⟩ := op_ints (hval 1 36 v1 rfl rfl) h1 (fun x hx => hlt x (by simp [hx])) (w_each hsz 1 36 _ (by rw [Tryd.params5]; rfl) rfl)
  obtain ⟨a2, rfl, w2⟩ := op_int (hval 2 3 v2 rfl rfl) h2
  exact countRises_walk W a0 A1 a1 c1 a2 w0 w1 i1 z1 w2 hdoor

set_option maxRecDepth 100000 in
theorem countRises_lifted (os : Os) (started : os.Started) (H : Type) (enc : TypeId × Value → H) :
    ReturnsInHanded {} Tryd.checked os 5 .any (fun w args => (Rows.countRisesSpec.pre enc Tryd.checked.prog Tryd.f5 [] false w args ∧ laidMetH Tryd.checked.prog LaidD w) ∧ sizedMet enc Tryd.checked.prog Tryd.f5 (OpenSpec.ofChange Rows.countRisesSpec) false w args) (Rows.countRisesSpec.post enc Tryd.checked.prog Tryd.f5 false true false false) :=
  returns_of_walkD (C := Tryd.checked) (s := Rows.countRisesSpec) (L := LaidD) (D := Door) own started (by kernel_rfl) Tryd.func5
    (ChangeSpec.witness_at (enc := enc) (C := Tryd.checked) (os := os) (X := fun w _ => laidMetH Tryd.prog LaidD w) false (laidWorld os) #[.string ⟨#[]⟩, .slice none 0 0, .int .i64 0] 8 rfl (by kernel_rfl) (by kernel_rfl) (by kernel_rfl) (by kernel_rfl) (by kernel_rfl) (laidWorld_met os _))
    (fun W h => door_of_laid h) laidOut (by kernel_rfl) rfl Tryd.underlying4 rfl (fun ds h => by match ds, h with | [_, _, _], _ => rfl) (countRises_walks H enc)

theorem countRises_bare : Rows.CountRisesSaid :=
  OpenClaim.holds_of_wide 5 Tryd.f5 rfl rfl rfl rfl rfl rfl rfl ⟨rfl, rfl, rfl, rfl, rfl⟩ rfl rfl rfl rfl rfl (by kernel_rfl) Tryd.func5 (by kernel_rfl)
    (of_decide_eq_true (by kernel_rfl)) (by unfold Func.isWrapper; rw [if_neg (of_decide_eq_false (by kernel_rfl))]; exact ⟨rfl, rfl⟩)
    (fun os started H enc _ => countRises_lifted os started H enc)

theorem countRises_holds : Rows.CountRisesCardSaid :=
  Claim7.holds_tied_plain_at .later [] [.handle] true Rows.countRisesCard.stood.harness true
    countRises_bare (fun _ h => by cases h) (by kernel_rfl) (fun _ h => by cases h) countRises_row_tie rfl ⟨rfl, rfl⟩ (by kernel_rfl) rfl
    (fun f fn hf hfn => by
      obtain rfl : f = 5 := Option.some.inj ((show Tryd.prog.funcNamed "bootstair/stairlaw2.CountRises" = some 5 by kernel_rfl).symm.trans hf) |>.symm
      obtain rfl : fn = Tryd.f5 := (Option.some.inj (Tryd.func5.symm.trans hfn)).symm
      exact ⟨by kernel_rfl, fun j t ht => by
        have hm : t ∈ Tryd.f5.params.toList := by simpa using Array.mem_of_getElem? ht
        have hall : (Tryd.f5.params.toList.all fun u => !Tryd.prog.wantsStandIn u) = true := by kernel_rfl
        exact (show Tryd.prog.wantsStandIn t = false by simpa using List.all_eq_true.1 hall t hm)⟩)
    (by kernel_rfl)

end Go.Proofs.YtnocigkfhdnhfaaDoor
