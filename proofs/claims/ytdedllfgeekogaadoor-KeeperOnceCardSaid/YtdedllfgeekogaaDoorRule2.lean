/- The walks of package rule: Check, Fit, Fits, Asks, Mask. -/
import Derived.Test.YtdedllfgeekogaaDoorRows
import Derived.Test.YtdedllfgeekogaaDoorNum
import Derived.Test.YtdedllfgeekogaaDoorBase
import Derived.Test.YtdedllfgeekogaaDoorMeas
import Derived.Test.YtdedllfgeekogaaDoorBank
import Derived.Test.YtdedllfgeekogaaDoorRule
import Derived.WalkKit
import Derived.Lib.Hide
namespace Go.Proofs.YtdedllfgeekogaaDoor
open Go.RowKit

theorem RulesAt.take {w : World} {A : Option Addr} {rs : List (Int × List Int)} (h : RulesAt w A rs) (k : Nat) : RulesAt w A (rs.take k) := fun i hi => by
  rw [List.length_take] at hi
  have e : (rs.take k).getD i (0, []) = rs.getD i (0, []) := by rw [List.getD_eq_getElem?_getD, List.getD_eq_getElem?_getD, List.getElem?_take_of_lt (by omega)]
  rw [e]
  exact h i (by omega)

theorem ruleGo_cons (prev : List (Int × List Int)) (x : Int) (g : List Int) (rest : List (Int × List Int)) :
    ruleGo prev ((x, g) :: rest) = if okReg x then (if 12 < g.length then 4 else if g.all okM then (if prev.any (fun s => s.1 == x) then 7 else ruleGo (prev ++ [(x, g)]) rest) else 1) else 1 := rfl

set_option maxHeartbeats 1000000 in
theorem ruleCheck_any (A : Option Addr) (c : Nat) (rs : List (Int × List Int)) (w : World) (hA : RulesAt w A rs) (hc : rs.length ≤ c) (hbig : rs.length ≤ 9223372036854775806) (hg : ∀ r ∈ rs, r.2.length ≤ 9223372036854775806) :
    Calls Tryd.prog 40 #[.slice A rs.length c] w fun e w' => e = .returned (errV (rulesE rs)) ∧ Below w.heap.size w w' := by
  by_cases hl : 8 < rs.length
  · have HE : Hid (rulesE rs = 4) := Lib.hid (by unfold rulesE; rw [if_pos hl])
    go_enter Tryd.func40, Tryd.ntmps40
    go_wp2
    go_ret
    exact ⟨by rw [HE.out]; rfl, (by repeat (first | (with_reducible exact grow_refl _) | (with_reducible assumption) | (with_reducible refine grow_alloc ?_ _) | (with_reducible refine grow_set ?_ (by first | exact Nat.le_refl _ | (simp; done) | (simp; omega) | omega) _) | (with_reducible refine grow_drewN ?_ _) | (with_reducible refine grow_drew ?_) | (with_reducible refine grow_step ?_ (by assumption)) | (with_reducible refine grow_base ?_ (by assumption))))⟩
  · have HE : Hid (rulesE rs = ruleGo [] rs) := Lib.hid (by unfold rulesE; rw [if_neg hl])
    have HA := Lib.hid hA
    have HG := Lib.hid hg
    clear hA hbig hg
    go_enter Tryd.func40, Tryd.ntmps40
    go_wp2
    go_loopw [3, 11] (fun _ i wr => ∃ k : Nat, k ≤ rs.length ∧ i = .int .i64 k ∧ Hid (ruleGo [] rs = ruleGo (rs.take k) (rs.drop k)) ∧ Below w.heap.size w wr) (fun _ i _ => rs.length - (intOf i).toNat)
    case atStart => exact ⟨0, Nat.zero_le _, rfl, Lib.hid rfl, (by repeat (first | (with_reducible exact grow_refl _) | (with_reducible assumption) | (with_reducible refine grow_alloc ?_ _) | (with_reducible refine grow_set ?_ (by first | exact Nat.le_refl _ | (simp; done) | (simp; omega) | omega) _) | (with_reducible refine grow_drewN ?_ _) | (with_reducible refine grow_drew ?_) | (with_reducible refine grow_step ?_ (by assumption)) | (with_reducible refine grow_base ?_ (by assumption))))⟩
    case round =>
      obtain ⟨k, hk, rfl, HP, hb⟩ := hrel
      by_cases hlt : k < rs.length
      · have hA2 := HA.out.below hb
        have HA2 := Lib.hid hA2
        obtain ⟨b, off, GA, gc, rfl, _, h1, h2, hI⟩ := hA2 k hlt
        clear hA2
        have hd := drop_cons rs (0, []) k hlt
        have hs := take_snoc rs (0, []) k hlt
        obtain ⟨⟨x, g⟩, hxe⟩ : ∃ x, rs.getD k (0, []) = x := ⟨_, rfl⟩
        have hmem : (x, g) ∈ rs := by rw [← hxe, List.getD_eq_getElem?_getD, List.getElem?_eq_getElem hlt]; exact List.getElem_mem hlt
        have hgl := HG.out _ hmem
        rw [hxe] at h1 h2 hI hd hs
        simp only at h1 h2 hI hgl
        have HS : Hid (ruleGo [] rs = if okReg x then (if 12 < g.length then 4 else if g.all okM then (if (rs.take k).any (fun s => s.1 == x) then 7 else ruleGo (rs.take (k + 1)) (rs.drop (k + 1))) else 1) else 1) :=
          Lib.hid (by rw [HP.out, hd, ruleGo_cons, hs])
        have HI := Lib.hid hI
        clear HP hd hs hxe hmem hI
        cases hx : okReg x
        · have HF : Hid (ruleGo [] rs = 1) := Lib.hid (by rw [HS.out, hx]; rfl)
          go_wp2_with (go_at_call 78; refine (register_any _ _).mono ?_; rintro e w' ⟨rfl, rfl⟩)
          go_ret
          exact ⟨by rw [HE.out, HF.out]; rfl, (by repeat (first | (with_reducible exact grow_refl _) | (with_reducible assumption) | (with_reducible refine grow_alloc ?_ _) | (with_reducible refine grow_set ?_ (by first | exact Nat.le_refl _ | (simp; done) | (simp; omega) | omega) _) | (with_reducible refine grow_drewN ?_ _) | (with_reducible refine grow_drew ?_) | (with_reducible refine grow_step ?_ (by assumption)) | (with_reducible refine grow_base ?_ (by assumption))))⟩
        · by_cases hgl2 : 12 < g.length
          · have HF : Hid (ruleGo [] rs = 4) := Lib.hid (by rw [HS.out, hx, if_pos hgl2]; rfl)
            go_wp2_with (go_at_call 78; refine (register_any _ _).mono ?_; rintro e w' ⟨rfl, rfl⟩)
            go_ret
            exact ⟨by rw [HE.out, HF.out]; rfl, (by repeat (first | (with_reducible exact grow_refl _) | (with_reducible assumption) | (with_reducible refine grow_alloc ?_ _) | (with_reducible refine grow_set ?_ (by first | exact Nat.le_refl _ | (simp; done) | (simp; omega) | omega) _) | (with_reducible refine grow_drewN ?_ _) | (with_reducible refine grow_drew ?_) | (with_reducible refine grow_step ?_ (by assumption)) | (with_reducible refine grow_base ?_ (by assumption))))⟩
          · have hany : g.any (fun n => !okM n) = !(g.all okM) := by rw [List.not_all_eq_any_not]
            cases hm : g.all okM
            · have HF : Hid (ruleGo [] rs = 1) := Lib.hid (by rw [HS.out, hx, if_neg hgl2, hm]; rfl)
              rw [hm] at hany
              clear hm
              go_wp2_with (first | (go_at_call 78; refine (register_any _ _).mono ?_; rintro e w' ⟨rfl, rfl⟩) | (go_at_call 80; refine (containsFunc_rc _ _ g _ (HI.out.below (grow_alloc (grow_refl _) _)) (by omega)).mono ?_; rintro e w' ⟨rfl, rfl⟩))
              go_ret
              exact ⟨by rw [HE.out, HF.out]; rfl, (by repeat (first | (with_reducible exact grow_refl _) | (with_reducible assumption) | (with_reducible refine grow_alloc ?_ _) | (with_reducible refine grow_set ?_ (by first | exact Nat.le_refl _ | (simp; done) | (simp; omega) | omega) _) | (with_reducible refine grow_drewN ?_ _) | (with_reducible refine grow_drew ?_) | (with_reducible refine grow_step ?_ (by assumption)) | (with_reducible refine grow_base ?_ (by assumption))))⟩
            · rw [hm] at hany
              have HT : Hid ((rs.take k).length = k) := Lib.hid (by rw [List.length_take]; omega)
              cases ht : (rs.take k).any (fun s => s.1 == x)
              · have HF : Hid (ruleGo [] rs = ruleGo (rs.take (k + 1)) (rs.drop (k + 1))) := Lib.hid (by rw [HS.out, hx, if_neg hgl2, hm, ht]; rfl)
                clear hm
                have HC := Lib.hid (fun (W : World) (cb : Nat) (h : RulesAt W (some ⟨b, off, none⟩) rs) (hcp : Cap2 W cb x) => containsRule_c2 cb x (some ⟨b, off, none⟩) c (rs.take k) W (h.take k) hcp (fun _ _ => trivial) (by rw [HT.out]; omega))
                rw [HT.out, ht] at HC
                clear ht
                go_wp2_with (first | (go_at_call 78; refine (register_any _ _).mono ?_; rintro e w' ⟨rfl, rfl⟩) | (go_at_call 80; refine (containsFunc_rc _ _ g _ (HI.out.below (grow_alloc (grow_refl _) _)) (by omega)).mono ?_; rintro e w' ⟨rfl, rfl⟩) | (go_at_call 82; refine (HC.out _ _ (HA2.out.below (grow_alloc (grow_refl _) _)) ⟨(Box.new _ _ _).lt, (Box.new _ _ _).cell 0⟩).mono ?_; rintro e w1 ⟨rfl, hb1⟩))
                go_roundw
                case rel => exact ⟨k + 1, by omega, by go_num, HF, (by repeat (first | (with_reducible exact grow_refl _) | (with_reducible assumption) | (with_reducible refine grow_alloc ?_ _) | (with_reducible refine grow_set ?_ (by first | exact Nat.le_refl _ | (simp; done) | (simp; omega) | omega) _) | (with_reducible refine grow_drewN ?_ _) | (with_reducible refine grow_drew ?_) | (with_reducible refine grow_step ?_ (by assumption)) | (with_reducible refine grow_base ?_ (by assumption))))⟩
                case measure => simp [intOf]; omega
              · have HF : Hid (ruleGo [] rs = 7) := Lib.hid (by rw [HS.out, hx, if_neg hgl2, hm, ht]; rfl)
                clear hm
                have HC := Lib.hid (fun (W : World) (cb : Nat) (h : RulesAt W (some ⟨b, off, none⟩) rs) (hcp : Cap2 W cb x) => containsRule_c2 cb x (some ⟨b, off, none⟩) c (rs.take k) W (h.take k) hcp (fun _ _ => trivial) (by rw [HT.out]; omega))
                rw [HT.out, ht] at HC
                clear ht
                go_wp2_with (first | (go_at_call 78; refine (register_any _ _).mono ?_; rintro e w' ⟨rfl, rfl⟩) | (go_at_call 80; refine (containsFunc_rc _ _ g _ (HI.out.below (grow_alloc (grow_refl _) _)) (by omega)).mono ?_; rintro e w' ⟨rfl, rfl⟩) | (go_at_call 82; refine (HC.out _ _ (HA2.out.below (grow_alloc (grow_refl _) _)) ⟨(Box.new _ _ _).lt, (Box.new _ _ _).cell 0⟩).mono ?_; rintro e w1 ⟨rfl, hb1⟩))
                go_ret
                exact ⟨by rw [HE.out, HF.out]; rfl, (by repeat (first | (with_reducible exact grow_refl _) | (with_reducible assumption) | (with_reducible refine grow_alloc ?_ _) | (with_reducible refine grow_set ?_ (by first | exact Nat.le_refl _ | (simp; done) | (simp; omega) | omega) _) | (with_reducible refine grow_drewN ?_ _) | (with_reducible refine grow_drew ?_) | (with_reducible refine grow_step ?_ (by assumption)) | (with_reducible refine grow_base ?_ (by assumption))))⟩
      · have HF : Hid (ruleGo [] rs = 0) := Lib.hid (by rw [HP.out, List.drop_eq_nil_of_le (by omega)]; rfl)
        go_wp2
        go_ret
        exact ⟨by rw [HE.out, HF.out]; rfl, (by repeat (first | (with_reducible exact grow_refl _) | (with_reducible assumption) | (with_reducible refine grow_alloc ?_ _) | (with_reducible refine grow_set ?_ (by first | exact Nat.le_refl _ | (simp; done) | (simp; omega) | omega) _) | (with_reducible refine grow_drewN ?_ _) | (with_reducible refine grow_drew ?_) | (with_reducible refine grow_step ?_ (by assumption)) | (with_reducible refine grow_base ?_ (by assumption))))⟩

set_option maxHeartbeats 400000 in
theorem fit_any (A : Option Addr) (c : Nat) (rs : List (Int × List Int)) (x0 x1 x2 x3 x4 x5 x6 x7 : Int) (w : World) (hA : RulesAt w A rs) (hok : ∀ r ∈ rs, okReg r.1 = true ∧ r.2.length ≤ 100000) (hbig : rs.length ≤ 9223372036854775806) :
    Calls Tryd.prog 42 #[.slice A rs.length c, .agg #[.int .i64 x0, .int .i64 x1, .int .i64 x2, .int .i64 x3, .int .i64 x4, .int .i64 x5, .int .i64 x6, .int .i64 x7]] w fun e w' => e = .returned (.bool (fitM rs [x0, x1, x2, x3, x4, x5, x6, x7])) ∧ Below w.heap.size w w' := by
  have HA := Lib.hid (hA.below (grow_alloc (grow_refl _) (.cells #[.int .i64 x0, .int .i64 x1, .int .i64 x2, .int .i64 x3, .int .i64 x4, .int .i64 x5, .int .i64 x6, .int .i64 x7] 38)))
  have HO := Lib.hid hok
  clear hA hok
  have HF : Hid (fitM rs [x0, x1, x2, x3, x4, x5, x6, x7] = !(rs.any (fitBad [x0, x1, x2, x3, x4, x5, x6, x7]))) := Lib.hid rfl
  go_enter Tryd.func42, Tryd.ntmps42
  go_wp2_with fail
  refine (containsRule_f1 _ x0 x1 x2 x3 x4 x5 x6 x7 A c rs _ HA.out (Box.new _ _ _) HO.out hbig).mono ?_
  rintro e w1 ⟨rfl, hb⟩
  go_wp2_with fail
  go_ret
  exact ⟨bool_eq HF.out.symm, (by repeat (first | (with_reducible exact grow_refl _) | (with_reducible assumption) | (with_reducible refine grow_alloc ?_ _) | (with_reducible refine grow_set ?_ (by first | exact Nat.le_refl _ | (simp; done) | (simp; omega) | omega) _) | (with_reducible refine grow_drewN ?_ _) | (with_reducible refine grow_drew ?_) | (with_reducible refine grow_step ?_ (by assumption)) | (with_reducible refine grow_base ?_ (by assumption))))⟩

theorem or_fact (m k : Nat) (d : Int) (hd : d = ((2 ^ k : Nat) : Int)) (hm : m < 256) (hk : k ≤ 7) : bits .or .i64 (m : Int) d = ((m ||| 2 ^ k : Nat) : Int) := by
  subst hd
  have h2 : 2 ^ k < 256 := Nat.lt_of_le_of_lt (Nat.pow_le_pow_right (by decide) hk) (by decide)
  have hx : m ||| 2 ^ k < 2 ^ 8 := Nat.or_lt_two_pow (n := 8) (by omega) (by omega)
  have e : ∀ a : Nat, a < 9223372036854775808 → (BitVec.ofInt 64 (a : Int)).toNat = a := fun a ha => by
    rw [BitVec.ofInt_natCast, BitVec.toNat_ofNat]; exact Nat.mod_eq_of_lt (by omega)
  show IntKind.i64.wrap ((BitVec.ofInt 64 (m : Int) ||| BitVec.ofInt 64 ((2 ^ k : Nat) : Int)).toNat : Int) = _
  rw [BitVec.toNat_or, e m (by omega), e (2 ^ k) (by omega), IntKind.wrap_i64]
  omega

set_option maxHeartbeats 2000000 in
theorem asks_any (A : Option Addr) (c : Nat) (rs : List (Int × List Int)) (w : World) (hA : RulesAt w A rs) (hok : ∀ r ∈ rs, okReg r.1 = true) (hbig : rs.length ≤ 9223372036854775806) :
    Calls Tryd.prog 71 #[.slice A rs.length c] w fun e w' => e = .returned (.int .i64 (askN rs : Nat)) ∧ Below w.heap.size w w' := by
  have HA := Lib.hid hA
  have HO := Lib.hid hok
  clear hA hok
  go_enter Tryd.func71, Tryd.ntmps71
  go_wp2
  go_loopw [3, 8] (fun o i wr => ∃ k : Nat, k ≤ rs.length ∧ i = .int .i64 k ∧ o = .int .i64 (askN (rs.take k) : Nat) ∧ Below w.heap.size w wr) (fun _ i _ => rs.length - (intOf i).toNat)
  case atStart => exact ⟨0, Nat.zero_le _, rfl, rfl, (by repeat (first | (with_reducible exact grow_refl _) | (with_reducible assumption) | (with_reducible refine grow_alloc ?_ _) | (with_reducible refine grow_set ?_ (by first | exact Nat.le_refl _ | (simp; done) | (simp; omega) | omega) _) | (with_reducible refine grow_drewN ?_ _) | (with_reducible refine grow_drew ?_) | (with_reducible refine grow_step ?_ (by assumption)) | (with_reducible refine grow_base ?_ (by assumption))))⟩
  case round =>
    obtain ⟨k, hk, rfl, rfl, hb⟩ := hrel
    by_cases hlt : k < rs.length
    · obtain ⟨b, off, GA, gc, rfl, _, h1, h2, _⟩ := (HA.out.below hb) k hlt
      have hs := take_snoc rs (0, []) k hlt
      obtain ⟨⟨x, g⟩, hxe⟩ : ∃ x, rs.getD k (0, []) = x := ⟨_, rfl⟩
      have hmem : (x, g) ∈ rs := by rw [← hxe, List.getD_eq_getElem?_getD, List.getElem?_eq_getElem hlt]; exact List.getElem_mem hlt
      have hx := HO.out _ hmem
      rw [hxe] at h1 h2 hs
      simp only at h1 h2 hx
      have hx' := okReg_yes hx
      have hlt256 : askN (rs.take k) < 256 := askN_lt (fun r hr => HO.out r (List.mem_of_mem_take hr))
      have HS : Hid (askN (rs.take (k + 1)) = askN (rs.take k) ||| 2 ^ x.toNat) := Lib.hid (by rw [hs, askN_snoc])
      have hcase : x = 0 ∨ x = 1 ∨ x = 2 ∨ x = 3 ∨ x = 4 ∨ x = 5 ∨ x = 6 ∨ x = 7 := by omega
      clear hs hxe hmem hx hx'
      obtain ⟨m, hm⟩ : ∃ m, askN (rs.take k) = m := ⟨_, rfl⟩
      rw [hm] at hlt256 HS
      have HM := Lib.hid hm
      rw [hm]
      clear hm
      rcases hcase with rfl | rfl | rfl | rfl | rfl | rfl | rfl | rfl
      · have ho := or_fact m 0 1 (by decide) hlt256 (by decide)
        go_wp2
        go_roundw
        case rel => exact ⟨k + 1, by omega, by go_num, by rw [HS.out]; rfl, (by repeat (first | (with_reducible exact grow_refl _) | (with_reducible assumption) | (with_reducible refine grow_alloc ?_ _) | (with_reducible refine grow_set ?_ (by first | exact Nat.le_refl _ | (simp; done) | (simp; omega) | omega) _) | (with_reducible refine grow_drewN ?_ _) | (with_reducible refine grow_drew ?_) | (with_reducible refine grow_step ?_ (by assumption)) | (with_reducible refine grow_base ?_ (by assumption))))⟩
        case measure => simp [intOf]; omega
      · have ho := or_fact m 1 2 (by decide) hlt256 (by decide)
        go_wp2
        go_roundw
        case rel => exact ⟨k + 1, by omega, by go_num, by rw [HS.out]; rfl, (by repeat (first | (with_reducible exact grow_refl _) | (with_reducible assumption) | (with_reducible refine grow_alloc ?_ _) | (with_reducible refine grow_set ?_ (by first | exact Nat.le_refl _ | (simp; done) | (simp; omega) | omega) _) | (with_reducible refine grow_drewN ?_ _) | (with_reducible refine grow_drew ?_) | (with_reducible refine grow_step ?_ (by assumption)) | (with_reducible refine grow_base ?_ (by assumption))))⟩
        case measure => simp [intOf]; omega
      · have ho := or_fact m 2 4 (by decide) hlt256 (by decide)
        go_wp2
        go_roundw
        case rel => exact ⟨k + 1, by omega, by go_num, by rw [HS.out]; rfl, (by repeat (first | (with_reducible exact grow_refl _) | (with_reducible assumption) | (with_reducible refine grow_alloc ?_ _) | (with_reducible refine grow_set ?_ (by first | exact Nat.le_refl _ | (simp; done) | (simp; omega) | omega) _) | (with_reducible refine grow_drewN ?_ _) | (with_reducible refine grow_drew ?_) | (with_reducible refine grow_step ?_ (by assumption)) | (with_reducible refine grow_base ?_ (by assumption))))⟩
        case measure => simp [intOf]; omega
      · have ho := or_fact m 3 8 (by decide) hlt256 (by decide)
        go_wp2
        go_roundw
        case rel => exact ⟨k + 1, by omega, by go_num, by rw [HS.out]; rfl, (by repeat (first | (with_reducible exact grow_refl _) | (with_reducible assumption) | (with_reducible refine grow_alloc ?_ _) | (with_reducible refine grow_set ?_ (by first | exact Nat.le_refl _ | (simp; done) | (simp; omega) | omega) _) | (with_reducible refine grow_drewN ?_ _) | (with_reducible refine grow_drew ?_) | (with_reducible refine grow_step ?_ (by assumption)) | (with_reducible refine grow_base ?_ (by assumption))))⟩
        case measure => simp [intOf]; omega
      · have ho := or_fact m 4 16 (by decide) hlt256 (by decide)
        go_wp2
        go_roundw
        case rel => exact ⟨k + 1, by omega, by go_num, by rw [HS.out]; rfl, (by repeat (first | (with_reducible exact grow_refl _) | (with_reducible assumption) | (with_reducible refine grow_alloc ?_ _) | (with_reducible refine grow_set ?_ (by first | exact Nat.le_refl _ | (simp; done) | (simp; omega) | omega) _) | (with_reducible refine grow_drewN ?_ _) | (with_reducible refine grow_drew ?_) | (with_reducible refine grow_step ?_ (by assumption)) | (with_reducible refine grow_base ?_ (by assumption))))⟩
        case measure => simp [intOf]; omega
      · have ho := or_fact m 5 32 (by decide) hlt256 (by decide)
        go_wp2
        go_roundw
        case rel => exact ⟨k + 1, by omega, by go_num, by rw [HS.out]; rfl, (by repeat (first | (with_reducible exact grow_refl _) | (with_reducible assumption) | (with_reducible refine grow_alloc ?_ _) | (with_reducible refine grow_set ?_ (by first | exact Nat.le_refl _ | (simp; done) | (simp; omega) | omega) _) | (with_reducible refine grow_drewN ?_ _) | (with_reducible refine grow_drew ?_) | (with_reducible refine grow_step ?_ (by assumption)) | (with_reducible refine grow_base ?_ (by assumption))))⟩
        case measure => simp [intOf]; omega
      · have ho := or_fact m 6 64 (by decide) hlt256 (by decide)
        go_wp2
        go_roundw
        case rel => exact ⟨k + 1, by omega, by go_num, by rw [HS.out]; rfl, (by repeat (first | (with_reducible exact grow_refl _) | (with_reducible assumption) | (with_reducible refine grow_alloc ?_ _) | (with_reducible refine grow_set ?_ (by first | exact Nat.le_refl _ | (simp; done) | (simp; omega) | omega) _) | (with_reducible refine grow_drewN ?_ _) | (with_reducible refine grow_drew ?_) | (with_reducible refine grow_step ?_ (by assumption)) | (with_reducible refine grow_base ?_ (by assumption))))⟩
        case measure => simp [intOf]; omega
      · have ho := or_fact m 7 128 (by decide) hlt256 (by decide)
        go_wp2
        go_roundw
        case rel => exact ⟨k + 1, by omega, by go_num, by rw [HS.out]; rfl, (by repeat (first | (with_reducible exact grow_refl _) | (with_reducible assumption) | (with_reducible refine grow_alloc ?_ _) | (with_reducible refine grow_set ?_ (by first | exact Nat.le_refl _ | (simp; done) | (simp; omega) | omega) _) | (with_reducible refine grow_drewN ?_ _) | (with_reducible refine grow_drew ?_) | (with_reducible refine grow_step ?_ (by assumption)) | (with_reducible refine grow_base ?_ (by assumption))))⟩
        case measure => simp [intOf]; omega
    · go_wp2
      go_ret
      exact ⟨by rw [List.take_of_length_le (by omega)]; rfl, (by repeat (first | (with_reducible exact grow_refl _) | (with_reducible assumption) | (with_reducible refine grow_alloc ?_ _) | (with_reducible refine grow_set ?_ (by first | exact Nat.le_refl _ | (simp; done) | (simp; omega) | omega) _) | (with_reducible refine grow_drewN ?_ _) | (with_reducible refine grow_drew ?_) | (with_reducible refine grow_step ?_ (by assumption)) | (with_reducible refine grow_base ?_ (by assumption))))⟩

set_option maxHeartbeats 1000000 in
theorem fits_any (A : Option Addr) (c : Nat) (rs : List (Int × List Int)) (x0 x1 x2 x3 x4 x5 x6 x7 : Int) (w : World) (hA : RulesAt w A rs) (hc : rs.length ≤ c) (hbig : rs.length ≤ 9223372036854775806) (hg : ∀ r ∈ rs, r.2.length ≤ 9223372036854775806) :
    Calls Tryd.prog 11 #[.slice A rs.length c, .agg #[.int .i64 x0, .int .i64 x1, .int .i64 x2, .int .i64 x3, .int .i64 x4, .int .i64 x5, .int .i64 x6, .int .i64 x7]] w fun e w' => e = .returned (.tuple #[.bool (fitsB rs [x0, x1, x2, x3, x4, x5, x6, x7]), errV (fitsE rs [x0, x1, x2, x3, x4, x5, x6, x7])]) ∧ Below w.heap.size w w' := by
  have en := fun k w => err_neq k w
  have gn := fun o k w => err_guard_neq o k w
  have HA := Lib.hid hA
  have HG := Lib.hid hg
  clear hA hg
  by_cases h0 : rulesE rs = 0
  · have hok := rulesE_ok h0
    have t : (rulesE rs != 0) = false := by simp [h0]
    cases hb : ([x0, x1, x2, x3, x4, x5, x6, x7]).all okM
    · have HF : Hid (fitsB rs [x0, x1, x2, x3, x4, x5, x6, x7] = false ∧ fitsE rs [x0, x1, x2, x3, x4, x5, x6, x7] = 1) := Lib.hid (by unfold fitsB fitsE; rw [hb, if_pos h0, bankE_no hb]; exact ⟨by simp, rfl⟩)
      have e2 := bankE_no hb
      have H0 := Lib.hid h0
      clear hb h0 t
      go_enter Tryd.func11, Tryd.ntmps11
      go_wp2_with fail
      refine (ruleCheck_any A c rs _ (HA.out.below (grow_alloc (grow_refl _) _)) hc hbig HG.out).mono ?_
      rintro e w1 ⟨rfl, hb1⟩
      rw [H0.out]
      have c1 := ((Box.new _ _ _).below hb1).cell
      go_wp2_with fail
      refine (bankCheck_any x0 x1 x2 x3 x4 x5 x6 x7 _).mono ?_
      rintro e w2 ⟨rfl, hb2⟩
      rw [e2]
      go_wp2_with fail
      go_ret2
      exact ⟨by rw [HF.out.1, HF.out.2]; rfl, (by repeat (first | (with_reducible exact grow_refl _) | (with_reducible assumption) | (with_reducible refine grow_alloc ?_ _) | (with_reducible refine grow_set ?_ (by first | exact Nat.le_refl _ | (simp; done) | (simp; omega) | omega) _) | (with_reducible refine grow_drewN ?_ _) | (with_reducible refine grow_drew ?_) | (with_reducible refine grow_step ?_ (by assumption)) | (with_reducible refine grow_base ?_ (by assumption))))⟩
    · have HF : Hid (fitsB rs [x0, x1, x2, x3, x4, x5, x6, x7] = fitM rs [x0, x1, x2, x3, x4, x5, x6, x7] ∧ fitsE rs [x0, x1, x2, x3, x4, x5, x6, x7] = 0) := Lib.hid (by unfold fitsB fitsE; rw [hb, if_pos h0, bankE_yes hb]; exact ⟨by simp [h0], rfl⟩)
      have e2 := bankE_yes hb
      have H0 := Lib.hid h0
      have HO : Hid (∀ r ∈ rs, okReg r.1 = true ∧ r.2.length ≤ 100000) := Lib.hid (fun r hr => ⟨(hok.2 r hr).1, by have := (hok.2 r hr).2.1; omega⟩)
      clear hb h0 t hok
      go_enter Tryd.func11, Tryd.ntmps11
      go_wp2_with fail
      refine (ruleCheck_any A c rs _ (HA.out.below (grow_alloc (grow_refl _) _)) hc hbig HG.out).mono ?_
      rintro e w1 ⟨rfl, hb1⟩
      rw [H0.out]
      have b1 := (Box.new _ _ _).below hb1
      have c1 := b1.cell
      go_wp2_with fail
      refine (bankCheck_any x0 x1 x2 x3 x4 x5 x6 x7 _).mono ?_
      rintro e w2 ⟨rfl, hb2⟩
      rw [e2]
      have c2 := (b1.below hb2).cell
      go_wp2_with fail
      refine (fit_any A c rs x0 x1 x2 x3 x4 x5 x6 x7 _ (((HA.out.below (grow_alloc (grow_refl _) _)).below hb1).below hb2) HO.out hbig).mono ?_
      rintro e w3 ⟨rfl, hb3⟩
      go_wp2_with fail
      go_ret2
      exact ⟨by rw [HF.out.1, HF.out.2]; rfl, (by repeat (first | (with_reducible exact grow_refl _) | (with_reducible assumption) | (with_reducible refine grow_alloc ?_ _) | (with_reducible refine grow_set ?_ (by first | exact Nat.le_refl _ | (simp; done) | (simp; omega) | omega) _) | (with_reducible refine grow_drewN ?_ _) | (with_reducible refine grow_drew ?_) | (with_reducible refine grow_step ?_ (by assumption)) | (with_reducible refine grow_base ?_ (by assumption))))⟩
  · have HF : Hid (fitsB rs [x0, x1, x2, x3, x4, x5, x6, x7] = false ∧ fitsE rs [x0, x1, x2, x3, x4, x5, x6, x7] = rulesE rs) := Lib.hid (by unfold fitsB fitsE; rw [if_neg h0]; exact ⟨by simp [h0], rfl⟩)
    have t : (rulesE rs != 0) = true := by simp [h0]
    clear h0
    go_enter Tryd.func11, Tryd.ntmps11
    go_wp2_with fail
    refine (ruleCheck_any A c rs _ (HA.out.below (grow_alloc (grow_refl _) _)) hc hbig HG.out).mono ?_
    rintro e w1 ⟨rfl, hb1⟩
    go_wp2_with fail
    go_ret2
    exact ⟨by rw [HF.out.1, HF.out.2]; rfl, (by repeat (first | (with_reducible exact grow_refl _) | (with_reducible assumption) | (with_reducible refine grow_alloc ?_ _) | (with_reducible refine grow_set ?_ (by first | exact Nat.le_refl _ | (simp; done) | (simp; omega) | omega) _) | (with_reducible refine grow_drewN ?_ _) | (with_reducible refine grow_drew ?_) | (with_reducible refine grow_step ?_ (by assumption)) | (with_reducible refine grow_base ?_ (by assumption))))⟩


end Go.Proofs.YtdedllfgeekogaaDoor
