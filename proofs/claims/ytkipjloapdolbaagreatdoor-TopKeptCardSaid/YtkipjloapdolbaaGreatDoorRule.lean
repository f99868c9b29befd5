/- The walks of package rule. The walks of package rule: Check, Fit, Fits, Asks, Mask. -/
import Derived.Test.YtkipjloapdolbaaGreatDoorRows
import Derived.Test.YtkipjloapdolbaaGreatDoorNum
import Derived.Test.YtkipjloapdolbaaGreatDoorBase
import Derived.Test.YtkipjloapdolbaaGreatDoorMeas
import Derived.Test.YtkipjloapdolbaaGreatDoorBank
import Derived.WalkKit
import Derived.Lib.Hide
import Derived.Deep.RegionHeld3
import Derived.Deep.QuietTactic
import Derived.BigQuiet
namespace Go.Proofs.YtkipjloapdolbaaGreatDoor
open Go.RowKit

/-- Rules: a register, and what is good. -/
def RulesAt (w : World) (A : Option Addr) (rs : List (Int × List Int)) : Prop :=
  ∀ i, i < rs.length → ∃ b off GA gc, A = some ⟨b, off, none⟩ ∧ b < w.heap.size ∧ w.cell? ⟨b, off + i * 2, none⟩ = some (.int .i64 (rs.getD i (0, [])).1) ∧
    w.cell? ⟨b, off + i * 2 + 1, none⟩ = some (.slice GA (rs.getD i (0, [])).2.length gc) ∧ IntsAt w GA (rs.getD i (0, [])).2
theorem RulesAt.below {w w' : World} {A : Option Addr} {rs : List (Int × List Int)} (h : RulesAt w A rs) (hb : Below w.heap.size w w') : RulesAt w' A rs := fun i hi => by
  obtain ⟨b, off, GA, gc, e, hlt, h1, h2, h3⟩ := h i hi
  exact ⟨b, off, GA, gc, e, Nat.lt_of_lt_of_le hlt hb.size, (hb.cell (p := ⟨b, off + i * 2, none⟩) hlt).trans h1, (hb.cell (p := ⟨b, off + i * 2 + 1, none⟩) hlt).trans h2, h3.below hb⟩
theorem RulesAt.nil_ (w : World) (A : Option Addr) : RulesAt w A [] := fun i hi => absurd hi (by simp)


theorem anyR_step {rs : List (Int × List Int)} {pr : Int × List Int → Bool} (k : Nat) (h : k < rs.length) (hp : (rs.take k).any pr = false) (hk : pr (rs.getD k (0, [])) = false) : (rs.take (k + 1)).any pr = false := by
  rw [take_snoc rs (0, []) k h, List.any_append, hp, List.any_cons, List.any_nil, hk]; rfl
theorem anyR_at {rs : List (Int × List Int)} {pr : Int × List Int → Bool} (k : Nat) (h : k < rs.length) (hk : pr (rs.getD k (0, [])) = true) : rs.any pr = true := by
  rw [List.any_eq_true]
  refine ⟨rs.getD k (0, []), ?_, hk⟩
  rw [List.getD_eq_getElem?_getD, List.getElem?_eq_getElem h]; exact List.getElem_mem h

def IndexPostB (b : Bool) (w : World) (e : Ending) (w' : World) : Prop := ∃ i : Int, e = .returned (.int .i64 i) ∧ -1 ≤ i ∧ i ≤ 9223372036854775806 ∧ (b = true → 0 ≤ i) ∧ (b = false → i < 0) ∧ Below w.heap.size w w'

set_option maxHeartbeats 400000 in
theorem index_any (A : Option Addr) (c : Nat) (xs : List Int) (v : Int) (w : World) (hA : IntsAt w A xs) (hbig : xs.length ≤ 9223372036854775806) :
    Calls Tryz.prog 96 #[.slice A xs.length c, .int .i64 v] w (IndexPost (xs.any (fun x => v == x)) w) := by
  have HA := Lib.hid hA
  clear hA
  go_enter Tryz.func96, Tryz.ntmps96
  go_wp2
  go_loop [5, 8] (fun _ i => ∃ k : Nat, k ≤ xs.length ∧ i = .int .i64 k ∧ Hid ((xs.take k).any (fun x => v == x) = false)) (fun _ i => xs.length - (intOf i).toNat)
  case atStart => exact ⟨0, Nat.zero_le _, rfl, Lib.hid (by simp)⟩
  case round =>
    obtain ⟨k, hk, rfl, HP⟩ := hrel
    by_cases hlt : k < xs.length
    · obtain ⟨b, off, rfl, _, hc⟩ := HA.out k hlt
      obtain ⟨x, hxe⟩ : ∃ x, xs.getD k 0 = x := ⟨_, rfl⟩
      rw [hxe] at hc
      have HV := Lib.hid hxe
      clear hxe
      cases hp : v == x
      · have HQ := Lib.hid (any_take_step (pr := fun x => v == x) k hlt HP.out (HV.out ▸ hp))
        go_wp2
        go_round
        case rel => exact ⟨k + 1, by omega, by go_num, HQ⟩
        case measure => simp [intOf]; omega
      · have HQ := Lib.hid (any_at (pr := fun x => v == x) k hlt (HV.out ▸ hp))
        go_wp2
        go_ret
        exact ⟨k, rfl, by omega, by omega, fun _ => by omega, (fun h => by rw [HQ.out] at h; cases h), rfl⟩
    · have HQ : Hid (xs.any (fun x => v == x) = false) := Lib.hid (by have := HP.out; rwa [List.take_of_length_le (by omega)] at this)
      go_wp2
      go_ret
      exact ⟨-1, rfl, by omega, by omega, (fun h => by rw [HQ.out] at h; cases h), fun _ => by omega, rfl⟩

set_option maxHeartbeats 400000 in
theorem contains_any (A : Option Addr) (c : Nat) (xs : List Int) (v : Int) (w : World) (hA : IntsAt w A xs) (hbig : xs.length ≤ 9223372036854775806) :
    Calls Tryz.prog 74 #[.slice A xs.length c, .int .i64 v] w fun e w' => e = .returned (.bool (xs.any (fun x => v == x))) ∧ w = w' := by
  have HC := Lib.hid (index_any A c xs v w hA hbig)
  clear hA
  cases h : xs.any (fun x => v == x)
  · go_enter Tryz.func74, Tryz.ntmps74
    go_wp2_with fail
    refine HC.out.mono ?_
    rintro e w' ⟨i, rfl, i1, i2, i3, i4, rfl⟩
    have i5 := i4 h
    clear i3 i4 h
    go_wp2_with fail
    go_ret
    exact ⟨bool_eq (by simp; omega), rfl⟩
  · go_enter Tryz.func74, Tryz.ntmps74
    go_wp2_with fail
    refine HC.out.mono ?_
    rintro e w' ⟨i, rfl, i1, i2, i3, i4, rfl⟩
    have i5 := i3 h
    clear i3 i4 h
    go_wp2_with fail
    go_ret
    exact ⟨bool_eq (by simp; try omega), rfl⟩

set_option maxHeartbeats 400000 in
theorem ruleCheck1_any (n : Int) (w : World) :
    Calls Tryz.prog 69 #[.int .i64 n] w fun e w' => e = .returned (.bool (!okM n)) ∧ w = w' := by
  go_enter Tryz.func69, Tryz.ntmps69
  go_wp2_with (go_at_call 34; refine (mIs_any _ _).mono ?_; rintro e w' ⟨rfl, rfl⟩)
  go_ret
  exact ⟨rfl, rfl⟩

set_option maxHeartbeats 400000 in
theorem indexFunc_rc (A : Option Addr) (c : Nat) (xs : List Int) (w : World) (hA : IntsAt w A xs) (hbig : xs.length ≤ 9223372036854775806) :
    Calls Tryz.prog 94 #[.slice A xs.length c, .func (.func 69) #[] #[]] w (IndexPost (xs.any (fun n => !okM n)) w) := by
  have HA := Lib.hid hA
  clear hA
  go_enter Tryz.func94, Tryz.ntmps94
  go_wp2
  go_loop [5, 8] (fun _ i => ∃ k : Nat, k ≤ xs.length ∧ i = .int .i64 k ∧ Hid ((xs.take k).any (fun n => !okM n) = false)) (fun _ i => xs.length - (intOf i).toNat)
  case atStart => exact ⟨0, Nat.zero_le _, rfl, Lib.hid (by simp)⟩
  case round =>
    obtain ⟨k, hk, rfl, HP⟩ := hrel
    by_cases hlt : k < xs.length
    · obtain ⟨b, off, rfl, _, hc⟩ := HA.out k hlt
      obtain ⟨x, hxe⟩ : ∃ x, xs.getD k 0 = x := ⟨_, rfl⟩
      rw [hxe] at hc
      have HV := Lib.hid hxe
      clear hxe
      cases hp : (fun n => !okM n) x
      · have HQ := Lib.hid (any_take_step (pr := fun n => !okM n) k hlt HP.out (HV.out ▸ hp))
        go_wp2_with fail
        refine (ruleCheck1_any x _).mono ?_
        rintro e w' ⟨rfl, rfl⟩
        go_wp2_with fail
        go_round
        case rel => exact ⟨k + 1, by omega, by go_num, HQ⟩
        case measure => simp [intOf]; omega
      · have HQ := Lib.hid (any_at (pr := fun n => !okM n) k hlt (HV.out ▸ hp))
        go_wp2_with fail
        refine (ruleCheck1_any x _).mono ?_
        rintro e w' ⟨rfl, rfl⟩
        go_wp2_with fail
        go_ret
        exact ⟨k, rfl, by omega, by omega, fun _ => by omega, (fun h => by rw [HQ.out] at h; cases h), rfl⟩
    · have HQ : Hid (xs.any (fun n => !okM n) = false) := Lib.hid (by have := HP.out; rwa [List.take_of_length_le (by omega)] at this)
      go_wp2_with fail
      go_ret
      exact ⟨-1, rfl, by omega, by omega, (fun h => by rw [HQ.out] at h; cases h), fun _ => by omega, rfl⟩

set_option maxHeartbeats 400000 in
theorem containsFunc_rc (A : Option Addr) (c : Nat) (xs : List Int) (w : World) (hA : IntsAt w A xs) (hbig : xs.length ≤ 9223372036854775806) :
    Calls Tryz.prog 68 #[.slice A xs.length c, .func (.func 69) #[] #[]] w fun e w' => e = .returned (.bool (xs.any (fun n => !okM n))) ∧ w = w' := by
  have HC := Lib.hid (indexFunc_rc A c xs w hA hbig)
  clear hA
  cases h : xs.any (fun n => !okM n)
  · go_enter Tryz.func68, Tryz.ntmps68
    go_wp2_with fail
    refine HC.out.mono ?_
    rintro e w' ⟨i, rfl, i1, i2, i3, i4, rfl⟩
    have i5 := i4 h
    clear i3 i4 h
    go_wp2_with fail
    go_ret
    exact ⟨bool_eq (by simp; omega), rfl⟩
  · go_enter Tryz.func68, Tryz.ntmps68
    go_wp2_with fail
    refine HC.out.mono ?_
    rintro e w' ⟨i, rfl, i1, i2, i3, i4, rfl⟩
    have i5 := i3 h
    clear i3 i4 h
    go_wp2_with fail
    go_ret
    exact ⟨bool_eq (by simp; try omega), rfl⟩



/-- What Check's second closure holds: the rule at hand. -/
def Cap2 (w : World) (cb : Nat) (reg : Int) : Prop := cb < w.heap.size ∧ w.cell? ⟨cb, 0, none⟩ = some (.int .i64 reg)
theorem Cap2.below {w w' : World} {cb : Nat} {reg : Int} (h : Cap2 w cb reg) (hb : Below w.heap.size w w') : Cap2 w' cb reg :=
  ⟨Nat.lt_of_lt_of_le h.1 hb.size, (hb.cell (p := ⟨cb, 0, none⟩) h.1).trans h.2⟩

set_option maxHeartbeats 400000 in
theorem ruleCheck2_any (x : Int) (GA : Option Addr) (n gc cb : Nat) (reg : Int) (w : World) (hc : Cap2 w cb reg) :
    Calls Tryz.prog 71 #[.agg #[.int .i64 x, .slice GA n gc], .pointer (some ⟨cb, 0, none⟩)] w fun e w' => e = .returned (.bool (x == reg)) ∧ Below w.heap.size w w' := by
  obtain ⟨h1, h2⟩ := hc
  go_enter Tryz.func71, Tryz.ntmps71
  go_wp2
  go_ret
  exact ⟨rfl, (by repeat (first | (with_reducible exact grow_refl _) | (with_reducible assumption) | (with_reducible refine grow_alloc ?_ _) | (with_reducible refine grow_set ?_ (by first | exact Nat.le_refl _ | (simp; done) | (simp; omega) | omega) _) | (with_reducible refine grow_drewN ?_ _) | (with_reducible refine grow_drew ?_) | (with_reducible refine grow_step ?_ (by assumption)) | (with_reducible refine grow_base ?_ (by assumption))))⟩

set_option maxHeartbeats 1000000 in
theorem indexRule_c2 (cb : Nat) (reg : Int) (A : Option Addr) (c : Nat) (rs : List (Int × List Int)) (w : World) (hA : RulesAt w A rs) (hcap : Cap2 w cb reg) (hok : ∀ x ∈ rs, True) (hbig : rs.length ≤ 9223372036854775806) :
    Calls Tryz.prog 95 #[.slice A rs.length c, .func (.func 71) #[] #[.pointer (some ⟨cb, 0, none⟩)]] w (IndexPostB (rs.any (fun x => x.1 == reg)) w) := by
  have HA := Lib.hid hA
  have HC := Lib.hid hcap
  have HOK := Lib.hid hok
  clear hA hcap hok
  go_enter Tryz.func95, Tryz.ntmps95
  go_wp2
  go_loopw [5, 8] (fun _ i wr => ∃ k : Nat, k ≤ rs.length ∧ i = .int .i64 k ∧ Hid ((rs.take k).any (fun x => x.1 == reg) = false) ∧ Below w.heap.size w wr) (fun _ i _ => rs.length - (intOf i).toNat)
  case atStart => exact ⟨0, Nat.zero_le _, rfl, Lib.hid (by simp), (by repeat (first | (with_reducible exact grow_refl _) | (with_reducible assumption) | (with_reducible refine grow_alloc ?_ _) | (with_reducible refine grow_set ?_ (by first | exact Nat.le_refl _ | (simp; done) | (simp; omega) | omega) _) | (with_reducible refine grow_drewN ?_ _) | (with_reducible refine grow_drew ?_) | (with_reducible refine grow_step ?_ (by assumption)) | (with_reducible refine grow_base ?_ (by assumption))))⟩
  case round =>
    obtain ⟨k, hk, rfl, HP, hb⟩ := hrel
    by_cases hlt : k < rs.length
    · obtain ⟨b, off, GA, gc, rfl, _, h1, h2, hI⟩ := (HA.out.below hb) k hlt
      have hcr := HC.out.below hb
      have HCR := Lib.hid hcr
      clear hcr
      obtain ⟨⟨x, g⟩, hxe⟩ : ∃ x, rs.getD k (0, []) = x := ⟨_, rfl⟩
      rw [hxe] at h1 h2 hI
      simp only at h1 h2 hI
      have HV := Lib.hid hxe
      have hmem : (x, g) ∈ rs := by rw [← hxe, List.getD_eq_getElem?_getD, List.getElem?_eq_getElem hlt]; exact List.getElem_mem hlt
      have hk1 := HOK.out _ hmem
      clear hmem hxe
      cases hp : ((fun x => x.1 == reg) : Int × List Int → Bool) (x, g)
      · have HQ := Lib.hid (anyR_step (pr := (fun x => x.1 == reg)) k hlt HP.out (HV.out ▸ hp))
        simp only at hp hk1
        go_wp2_with (go_at_call 71; refine (ruleCheck2_any _ _ _ _ _ _ _ HCR.out).mono ?_; rintro e w1 ⟨rfl, hb1⟩)
        go_roundw
        case rel => exact ⟨k + 1, by omega, by go_num, HQ, (by repeat (first | (with_reducible exact grow_refl _) | (with_reducible assumption) | (with_reducible refine grow_alloc ?_ _) | (with_reducible refine grow_set ?_ (by first | exact Nat.le_refl _ | (simp; done) | (simp; omega) | omega) _) | (with_reducible refine grow_drewN ?_ _) | (with_reducible refine grow_drew ?_) | (with_reducible refine grow_step ?_ (by assumption)) | (with_reducible refine grow_base ?_ (by assumption))))⟩
        case measure => simp [intOf]; omega
      · have HQ := Lib.hid (anyR_at (pr := (fun x => x.1 == reg)) k hlt (HV.out ▸ hp))
        simp only at hp hk1
        go_wp2_with (go_at_call 71; refine (ruleCheck2_any _ _ _ _ _ _ _ HCR.out).mono ?_; rintro e w1 ⟨rfl, hb1⟩)
        go_ret
        exact ⟨k, rfl, by omega, by omega, fun _ => by omega, (fun h => by rw [HQ.out] at h; cases h), (by repeat (first | (with_reducible exact grow_refl _) | (with_reducible assumption) | (with_reducible refine grow_alloc ?_ _) | (with_reducible refine grow_set ?_ (by first | exact Nat.le_refl _ | (simp; done) | (simp; omega) | omega) _) | (with_reducible refine grow_drewN ?_ _) | (with_reducible refine grow_drew ?_) | (with_reducible refine grow_step ?_ (by assumption)) | (with_reducible refine grow_base ?_ (by assumption))))⟩
    · have HQ : Hid (rs.any (fun x => x.1 == reg) = false) := Lib.hid (by have := HP.out; rwa [List.take_of_length_le (by omega)] at this)
      go_wp2_with fail
      go_ret
      exact ⟨-1, rfl, by omega, by omega, (fun h => by rw [HQ.out] at h; cases h), fun _ => by omega, (by repeat (first | (with_reducible exact grow_refl _) | (with_reducible assumption) | (with_reducible refine grow_alloc ?_ _) | (with_reducible refine grow_set ?_ (by first | exact Nat.le_refl _ | (simp; done) | (simp; omega) | omega) _) | (with_reducible refine grow_drewN ?_ _) | (with_reducible refine grow_drew ?_) | (with_reducible refine grow_step ?_ (by assumption)) | (with_reducible refine grow_base ?_ (by assumption))))⟩

set_option maxHeartbeats 400000 in
theorem containsRule_c2 (cb : Nat) (reg : Int) (A : Option Addr) (c : Nat) (rs : List (Int × List Int)) (w : World) (hA : RulesAt w A rs) (hcap : Cap2 w cb reg) (hok : ∀ x ∈ rs, True) (hbig : rs.length ≤ 9223372036854775806) :
    Calls Tryz.prog 70 #[.slice A rs.length c, .func (.func 71) #[] #[.pointer (some ⟨cb, 0, none⟩)]] w fun e w' => e = .returned (.bool (rs.any (fun x => x.1 == reg))) ∧ Below w.heap.size w w' := by
  have HC := Lib.hid (indexRule_c2 cb reg A c rs w hA hcap hok hbig)
  clear hA hcap hok
  cases h : rs.any (fun x => x.1 == reg)
  · go_enter Tryz.func70, Tryz.ntmps70
    go_wp2_with fail
    refine HC.out.mono ?_
    rintro e w' ⟨i, rfl, i1, i2, i3, i4, hb⟩
    have i5 := i4 h
    clear i3 i4 h
    go_wp2_with fail
    go_ret
    exact ⟨bool_eq (by simp; omega), hb⟩
  · go_enter Tryz.func70, Tryz.ntmps70
    go_wp2_with fail
    refine HC.out.mono ?_
    rintro e w' ⟨i, rfl, i1, i2, i3, i4, hb⟩
    have i5 := i3 h
    clear i3 i4 h
    go_wp2_with fail
    go_ret
    exact ⟨bool_eq (by simp; try omega), hb⟩

set_option maxHeartbeats 1000000 in
theorem fit1_any (x : Int) (GA : Option Addr) (gc cb : Nat) (g : List Int) (x0 x1 x2 x3 x4 x5 x6 x7 : Int) (w : World) (hB : Box w cb 54 #[.int .i64 x0, .int .i64 x1, .int .i64 x2, .int .i64 x3, .int .i64 x4, .int .i64 x5, .int .i64 x6, .int .i64 x7]) (hI : IntsAt w GA g) (hx : okReg x = true) (hbig : g.length ≤ 1000000) :
    Calls Tryz.prog 73 #[.agg #[.int .i64 x, .slice GA g.length gc], .pointer (some ⟨cb, 0, none⟩)] w fun e w' => e = .returned (.bool (fitBad [x0, x1, x2, x3, x4, x5, x6, x7] (x, g))) ∧ Below w.heap.size w w' := by
  have hi' := okReg_yes hx
  have hcase : x = 0 ∨ x = 1 ∨ x = 2 ∨ x = 3 ∨ x = 4 ∨ x = 5 ∨ x = 6 ∨ x = 7 := by omega
  clear hi' hx
  have hB2 := hB.below (grow_alloc (grow_refl _) (.cells #[.int .i64 x, .slice GA g.length gc] 119))
  have HI := Lib.hid (hI.below (grow_alloc (grow_refl _) (.cells #[.int .i64 x, .slice GA g.length gc] 119)))
  have hc := hB2.cell
  have hl := hB.lt
  have HB := Lib.hid hB2
  clear hB hI hB2
  rcases hcase with rfl | rfl | rfl | rfl | rfl | rfl | rfl | rfl
  all_goals
    go_enter Tryz.func73, Tryz.ntmps73
    go_wp2
    go_quiet ((go_at_call 74; exact Calls.quiet_of_same ((contains_any _ _ _ _ _ (HI.out.below (grow_drewN (grow_refl _) _)) (by omega)).mono (fun _ _ h => ⟨h.1, h.2.symm⟩))))
    go_wp2
    go_ret
    exact ⟨rfl, (by repeat (first | (with_reducible exact grow_refl _) | (with_reducible assumption) | (with_reducible refine grow_alloc ?_ _) | (with_reducible refine grow_set ?_ (by first | exact Nat.le_refl _ | (simp; done) | (simp; omega) | omega) _) | (with_reducible refine grow_drewN ?_ _) | (with_reducible refine grow_drew ?_) | (with_reducible refine grow_step ?_ (by assumption)) | (with_reducible refine grow_base ?_ (by assumption))))⟩

set_option maxHeartbeats 1000000 in
theorem indexRule_f1 (cb : Nat) (x0 x1 x2 x3 x4 x5 x6 x7 : Int) (A : Option Addr) (c : Nat) (rs : List (Int × List Int)) (w : World) (hA : RulesAt w A rs) (hcap : Box w cb 54 #[.int .i64 x0, .int .i64 x1, .int .i64 x2, .int .i64 x3, .int .i64 x4, .int .i64 x5, .int .i64 x6, .int .i64 x7]) (hok : ∀ x ∈ rs, okReg x.1 = true ∧ x.2.length ≤ 100000) (hbig : rs.length ≤ 9223372036854775806) :
    Calls Tryz.prog 95 #[.slice A rs.length c, .func (.func 73) #[] #[.pointer (some ⟨cb, 0, none⟩)]] w (IndexPostB (rs.any (fitBad [x0, x1, x2, x3, x4, x5, x6, x7])) w) := by
  have HA := Lib.hid hA
  have HC := Lib.hid hcap
  have HOK := Lib.hid hok
  clear hA hcap hok
  go_enter Tryz.func95, Tryz.ntmps95
  go_wp2
  go_loopw [5, 8] (fun _ i wr => ∃ k : Nat, k ≤ rs.length ∧ i = .int .i64 k ∧ Hid ((rs.take k).any (fitBad [x0, x1, x2, x3, x4, x5, x6, x7]) = false) ∧ Below w.heap.size w wr) (fun _ i _ => rs.length - (intOf i).toNat)
  case atStart => exact ⟨0, Nat.zero_le _, rfl, Lib.hid (by simp), (by repeat (first | (with_reducible exact grow_refl _) | (with_reducible assumption) | (with_reducible refine grow_alloc ?_ _) | (with_reducible refine grow_set ?_ (by first | exact Nat.le_refl _ | (simp; done) | (simp; omega) | omega) _) | (with_reducible refine grow_drewN ?_ _) | (with_reducible refine grow_drew ?_) | (with_reducible refine grow_step ?_ (by assumption)) | (with_reducible refine grow_base ?_ (by assumption))))⟩
  case round =>
    obtain ⟨k, hk, rfl, HP, hb⟩ := hrel
    by_cases hlt : k < rs.length
    · obtain ⟨b, off, GA, gc, rfl, _, h1, h2, hI⟩ := (HA.out.below hb) k hlt
      have hcr := HC.out.below hb
      have HCR := Lib.hid hcr
      clear hcr
      obtain ⟨⟨x, g⟩, hxe⟩ : ∃ x, rs.getD k (0, []) = x := ⟨_, rfl⟩
      rw [hxe] at h1 h2 hI
      simp only at h1 h2 hI
      have HV := Lib.hid hxe
      have hmem : (x, g) ∈ rs := by rw [← hxe, List.getD_eq_getElem?_getD, List.getElem?_eq_getElem hlt]; exact List.getElem_mem hlt
      have hk1 := HOK.out _ hmem
      clear hmem hxe
      cases hp : ((fitBad [x0, x1, x2, x3, x4, x5, x6, x7]) : Int × List Int → Bool) (x, g)
      · have HQ := Lib.hid (anyR_step (pr := (fitBad [x0, x1, x2, x3, x4, x5, x6, x7])) k hlt HP.out (HV.out ▸ hp))
        simp only at hp hk1
        obtain ⟨hk1, hk2⟩ := hk1
        go_wp2_with (go_at_call 73; refine (fit1_any _ _ _ _ _ x0 x1 x2 x3 x4 x5 x6 x7 _ HCR.out hI hk1 (by omega)).mono ?_; rintro e w1 ⟨rfl, hb1⟩)
        go_roundw
        case rel => exact ⟨k + 1, by omega, by go_num, HQ, (by repeat (first | (with_reducible exact grow_refl _) | (with_reducible assumption) | (with_reducible refine grow_alloc ?_ _) | (with_reducible refine grow_set ?_ (by first | exact Nat.le_refl _ | (simp; done) | (simp; omega) | omega) _) | (with_reducible refine grow_drewN ?_ _) | (with_reducible refine grow_drew ?_) | (with_reducible refine grow_step ?_ (by assumption)) | (with_reducible refine grow_base ?_ (by assumption))))⟩
        case measure => simp [intOf]; omega
      · have HQ := Lib.hid (anyR_at (pr := (fitBad [x0, x1, x2, x3, x4, x5, x6, x7])) k hlt (HV.out ▸ hp))
        simp only at hp hk1
        obtain ⟨hk1, hk2⟩ := hk1
        go_wp2_with (go_at_call 73; refine (fit1_any _ _ _ _ _ x0 x1 x2 x3 x4 x5 x6 x7 _ HCR.out hI hk1 (by omega)).mono ?_; rintro e w1 ⟨rfl, hb1⟩)
        go_ret
        exact ⟨k, rfl, by omega, by omega, fun _ => by omega, (fun h => by rw [HQ.out] at h; cases h), (by repeat (first | (with_reducible exact grow_refl _) | (with_reducible assumption) | (with_reducible refine grow_alloc ?_ _) | (with_reducible refine grow_set ?_ (by first | exact Nat.le_refl _ | (simp; done) | (simp; omega) | omega) _) | (with_reducible refine grow_drewN ?_ _) | (with_reducible refine grow_drew ?_) | (with_reducible refine grow_step ?_ (by assumption)) | (with_reducible refine grow_base ?_ (by assumption))))⟩
    · have HQ : Hid (rs.any (fitBad [x0, x1, x2, x3, x4, x5, x6, x7]) = false) := Lib.hid (by have := HP.out; rwa [List.take_of_length_le (by omega)] at this)
      go_wp2_with fail
      go_ret
      exact ⟨-1, rfl, by omega, by omega, (fun h => by rw [HQ.out] at h; cases h), fun _ => by omega, (by repeat (first | (with_reducible exact grow_refl _) | (with_reducible assumption) | (with_reducible refine grow_alloc ?_ _) | (with_reducible refine grow_set ?_ (by first | exact Nat.le_refl _ | (simp; done) | (simp; omega) | omega) _) | (with_reducible refine grow_drewN ?_ _) | (with_reducible refine grow_drew ?_) | (with_reducible refine grow_step ?_ (by assumption)) | (with_reducible refine grow_base ?_ (by assumption))))⟩

set_option maxHeartbeats 400000 in
theorem containsRule_f1 (cb : Nat) (x0 x1 x2 x3 x4 x5 x6 x7 : Int) (A : Option Addr) (c : Nat) (rs : List (Int × List Int)) (w : World) (hA : RulesAt w A rs) (hcap : Box w cb 54 #[.int .i64 x0, .int .i64 x1, .int .i64 x2, .int .i64 x3, .int .i64 x4, .int .i64 x5, .int .i64 x6, .int .i64 x7]) (hok : ∀ x ∈ rs, okReg x.1 = true ∧ x.2.length ≤ 100000) (hbig : rs.length ≤ 9223372036854775806) :
    Calls Tryz.prog 70 #[.slice A rs.length c, .func (.func 73) #[] #[.pointer (some ⟨cb, 0, none⟩)]] w fun e w' => e = .returned (.bool (rs.any (fitBad [x0, x1, x2, x3, x4, x5, x6, x7]))) ∧ Below w.heap.size w w' := by
  have HC := Lib.hid (indexRule_f1 cb x0 x1 x2 x3 x4 x5 x6 x7 A c rs w hA hcap hok hbig)
  clear hA hcap hok
  cases h : rs.any (fitBad [x0, x1, x2, x3, x4, x5, x6, x7])
  · go_enter Tryz.func70, Tryz.ntmps70
    go_wp2_with fail
    refine HC.out.mono ?_
    rintro e w' ⟨i, rfl, i1, i2, i3, i4, hb⟩
    have i5 := i4 h
    clear i3 i4 h
    go_wp2_with fail
    go_ret
    exact ⟨bool_eq (by simp; omega), hb⟩
  · go_enter Tryz.func70, Tryz.ntmps70
    go_wp2_with fail
    refine HC.out.mono ?_
    rintro e w' ⟨i, rfl, i1, i2, i3, i4, hb⟩
    have i5 := i3 h
    clear i3 i4 h
    go_wp2_with fail
    go_ret
    exact ⟨bool_eq (by simp; try omega), hb⟩


end Go.Proofs.YtkipjloapdolbaaGreatDoor

namespace Go.Proofs.YtkipjloapdolbaaGreatDoor
open Go.RowKit

theorem RulesAt.take {w : World} {A : Option Addr} {rs : List (Int × List Int)} (h : RulesAt w A rs) (k : Nat) : RulesAt w A (rs.take k) := fun i hi => by
  rw [List.length_take] at hi
  have e : (rs.take k).getD i (0, []) = rs.getD i (0, []) := by rw [List.getD_eq_getElem?_getD, List.getD_eq_getElem?_getD, List.getElem?_take_of_lt (by omega)]
  rw [e]
  exact h i (by omega)

theorem ruleGo_cons (prev : List (Int × List Int)) (x : Int) (g : List Int) (rest : List (Int × List Int)) :
    ruleGo prev ((x, g) :: rest) = if okReg x then (if 12 < g.length then 4 else if g.all okM then (if prev.any (fun s => s.1 == x) then 7 else ruleGo (prev ++ [(x, g)]) rest) else 1) else 1 := rfl

set_option maxHeartbeats 1000000 in
theorem ruleCheck_any (A : Option Addr) (c : Nat) (rs : List (Int × List Int)) (w : World) (hA : RulesAt w A rs) (hc : rs.length ≤ c) (hbig : rs.length ≤ 9223372036854775806) (hg : ∀ r ∈ rs, r.2.length ≤ 9223372036854775806) :
    Calls Tryz.prog 42 #[.slice A rs.length c] w fun e w' => e = .returned (errV (rulesE rs)) ∧ Below w.heap.size w w' := by
  by_cases hl : 8 < rs.length
  · have HE : Hid (rulesE rs = 4) := Lib.hid (by unfold rulesE; rw [if_pos hl])
    go_enter Tryz.func42, Tryz.ntmps42
    go_wp2
    go_ret
    exact ⟨by rw [HE.out]; rfl, (by repeat (first | (with_reducible exact grow_refl _) | (with_reducible assumption) | (with_reducible refine grow_alloc ?_ _) | (with_reducible refine grow_set ?_ (by first | exact Nat.le_refl _ | (simp; done) | (simp; omega) | omega) _) | (with_reducible refine grow_drewN ?_ _) | (with_reducible refine grow_drew ?_) | (with_reducible refine grow_step ?_ (by assumption)) | (with_reducible refine grow_base ?_ (by assumption))))⟩
  · have HE : Hid (rulesE rs = ruleGo [] rs) := Lib.hid (by unfold rulesE; rw [if_neg hl])
    have HA := Lib.hid hA
    have HG := Lib.hid hg
    clear hA hbig hg
    go_enter Tryz.func42, Tryz.ntmps42
    go_wp2
    go_loopw [3, 11] (fun _ i wr => ∃ k : Nat, k ≤ rs.length ∧ i = .int .i64 k ∧ Hid (ruleGo [] rs = ruleGo (rs.take k) (rs.drop k)) ∧ Below w.heap.size w wr) (fun _ i _ => rs.length - (intOf i).toNat)
    case atStart => exact ⟨0, Nat.zero_le _, rfl, Lib.hid rfl, (by repeat (first | (with_reducible exact grow_refl _) | (with_reducible assumption) | (with_reducible refine grow_alloc ?_ _) | (with_reducible refine grow_set ?_ (by first | exact Nat.le_refl _ | (simp; done) | (simp; omega) | omega) _) | (with_reducible refine grow_drewN ?_ _) | (with_reducible refine grow_drew ?_) | (with_reducible refine grow_step ?_ (by assumption)) | (with_reducible refine grow_base ?_ (by assumption))))⟩
    case round =>
      obtain ⟨k, hk, rfl, HP, hb⟩ := hrel
      by_cases hlt : k < rs.length
      · have hA2 := HA.out.below hb
        have HA2 := Lib.hid hA2
        obtain ⟨b, off, GA, gc, rfl, _, h1, h2, hI⟩ := hA2 k hlt
        clear hA2
        have hd := drop_cons rs (0, []) k hlt
        have hs := take_snoc rs (0, []) k hlt
        obtain ⟨⟨x, g⟩, hxe⟩ : ∃ x, rs.getD k (0, []) = x := ⟨_, rfl⟩
        have hmem : (x, g) ∈ rs := by rw [← hxe, List.getD_eq_getElem?_getD, List.getElem?_eq_getElem hlt]; exact List.getElem_mem hlt
        have hgl := HG.out _ hmem
        rw [hxe] at h1 h2 hI hd hs
        simp only at h1 h2 hI hgl
        have HS : Hid (ruleGo [] rs = if okReg x then (if 12 < g.length then 4 else if g.all okM then (if (rs.take k).any (fun s => s.1 == x) then 7 else ruleGo (rs.take (k + 1)) (rs.drop (k + 1))) else 1) else 1) :=
          Lib.hid (by rw [HP.out, hd, ruleGo_cons, hs])
        have HI := Lib.hid hI
        clear HP hd hs hxe hmem hI
        cases hx : okReg x
        · have HF : Hid (ruleGo [] rs = 1) := Lib.hid (by rw [HS.out, hx]; rfl)
          go_wp2_with (go_at_call 67; refine (register_any _ _).mono ?_; rintro e w' ⟨rfl, rfl⟩)
          go_ret
          exact ⟨by rw [HE.out, HF.out]; rfl, (by repeat (first | (with_reducible exact grow_refl _) | (with_reducible assumption) | (with_reducible refine grow_alloc ?_ _) | (with_reducible refine grow_set ?_ (by first | exact Nat.le_refl _ | (simp; done) | (simp; omega) | omega) _) | (with_reducible refine grow_drewN ?_ _) | (with_reducible refine grow_drew ?_) | (with_reducible refine grow_step ?_ (by assumption)) | (with_reducible refine grow_base ?_ (by assumption))))⟩
        · by_cases hgl2 : 12 < g.length
          · have HF : Hid (ruleGo [] rs = 4) := Lib.hid (by rw [HS.out, hx, if_pos hgl2]; rfl)
            go_wp2_with (go_at_call 67; refine (register_any _ _).mono ?_; rintro e w' ⟨rfl, rfl⟩)
            go_ret
            exact ⟨by rw [HE.out, HF.out]; rfl, (by repeat (first | (with_reducible exact grow_refl _) | (with_reducible assumption) | (with_reducible refine grow_alloc ?_ _) | (with_reducible refine grow_set ?_ (by first | exact Nat.le_refl _ | (simp; done) | (simp; omega) | omega) _) | (with_reducible refine grow_drewN ?_ _) | (with_reducible refine grow_drew ?_) | (with_reducible refine grow_step ?_ (by assumption)) | (with_reducible refine grow_base ?_ (by assumption))))⟩
          · have hany : g.any (fun n => !okM n) = !(g.all okM) := by rw [List.not_all_eq_any_not]
            cases hm : g.all okM
            · have HF : Hid (ruleGo [] rs = 1) := Lib.hid (by rw [HS.out, hx, if_neg hgl2, hm]; rfl)
              rw [hm] at hany
              clear hm
              go_wp2_with (first | (go_at_call 67; refine (register_any _ _).mono ?_; rintro e w' ⟨rfl, rfl⟩) | (go_at_call 68; refine (containsFunc_rc _ _ g _ (HI.out.below (grow_alloc (grow_refl _) _)) (by omega)).mono ?_; rintro e w' ⟨rfl, rfl⟩))
              go_ret
              exact ⟨by rw [HE.out, HF.out]; rfl, (by repeat (first | (with_reducible exact grow_refl _) | (with_reducible assumption) | (with_reducible refine grow_alloc ?_ _) | (with_reducible refine grow_set ?_ (by first | exact Nat.le_refl _ | (simp; done) | (simp; omega) | omega) _) | (with_reducible refine grow_drewN ?_ _) | (with_reducible refine grow_drew ?_) | (with_reducible refine grow_step ?_ (by assumption)) | (with_reducible refine grow_base ?_ (by assumption))))⟩
            · rw [hm] at hany
              have HT : Hid ((rs.take k).length = k) := Lib.hid (by rw [List.length_take]; omega)
              cases ht : (rs.take k).any (fun s => s.1 == x)
              · have HF : Hid (ruleGo [] rs = ruleGo (rs.take (k + 1)) (rs.drop (k + 1))) := Lib.hid (by rw [HS.out, hx, if_neg hgl2, hm, ht]; rfl)
                clear hm
                have HC := Lib.hid (fun (W : World) (cb : Nat) (h : RulesAt W (some ⟨b, off, none⟩) rs) (hcp : Cap2 W cb x) => containsRule_c2 cb x (some ⟨b, off, none⟩) c (rs.take k) W (h.take k) hcp (fun _ _ => trivial) (by rw [HT.out]; omega))
                rw [HT.out, ht] at HC
                clear ht
                go_wp2_with (first | (go_at_call 67; refine (register_any _ _).mono ?_; rintro e w' ⟨rfl, rfl⟩) | (go_at_call 68; refine (containsFunc_rc _ _ g _ (HI.out.below (grow_alloc (grow_refl _) _)) (by omega)).mono ?_; rintro e w' ⟨rfl, rfl⟩) | (go_at_call 70; refine (HC.out _ _ (HA2.out.below (grow_alloc (grow_refl _) _)) ⟨(Box.new _ _ _).lt, (Box.new _ _ _).cell 0⟩).mono ?_; rintro e w1 ⟨rfl, hb1⟩))
                go_roundw
                case rel => exact ⟨k + 1, by omega, by go_num, HF, (by repeat (first | (with_reducible exact grow_refl _) | (with_reducible assumption) | (with_reducible refine grow_alloc ?_ _) | (with_reducible refine grow_set ?_ (by first | exact Nat.le_refl _ | (simp; done) | (simp; omega) | omega) _) | (with_reducible refine grow_drewN ?_ _) | (with_reducible refine grow_drew ?_) | (with_reducible refine grow_step ?_ (by assumption)) | (with_reducible refine grow_base ?_ (by assumption))))⟩
                case measure => simp [intOf]; omega
              · have HF : Hid (ruleGo [] rs = 7) := Lib.hid (by rw [HS.out, hx, if_neg hgl2, hm, ht]; rfl)
                clear hm
                have HC := Lib.hid (fun (W : World) (cb : Nat) (h : RulesAt W (some ⟨b, off, none⟩) rs) (hcp : Cap2 W cb x) => containsRule_c2 cb x (some ⟨b, off, none⟩) c (rs.take k) W (h.take k) hcp (fun _ _ => trivial) (by rw [HT.out]; omega))
                rw [HT.out, ht] at HC
                clear ht
                go_wp2_with (first | (go_at_call 67; refine (register_any _ _).mono ?_; rintro e w' ⟨rfl, rfl⟩) | (go_at_call 68; refine (containsFunc_rc _ _ g _ (HI.out.below (grow_alloc (grow_refl _) _)) (by omega)).mono ?_; rintro e w' ⟨rfl, rfl⟩) | (go_at_call 70; refine (HC.out _ _ (HA2.out.below (grow_alloc (grow_refl _) _)) ⟨(Box.new _ _ _).lt, (Box.new _ _ _).cell 0⟩).mono ?_; rintro e w1 ⟨rfl, hb1⟩))
                go_ret
                exact ⟨by rw [HE.out, HF.out]; rfl, (by repeat (first | (with_reducible exact grow_refl _) | (with_reducible assumption) | (with_reducible refine grow_alloc ?_ _) | (with_reducible refine grow_set ?_ (by first | exact Nat.le_refl _ | (simp; done) | (simp; omega) | omega) _) | (with_reducible refine grow_drewN ?_ _) | (with_reducible refine grow_drew ?_) | (with_reducible refine grow_step ?_ (by assumption)) | (with_reducible refine grow_base ?_ (by assumption))))⟩
      · have HF : Hid (ruleGo [] rs = 0) := Lib.hid (by rw [HP.out, List.drop_eq_nil_of_le (by omega)]; rfl)
        go_wp2
        go_ret
        exact ⟨by rw [HE.out, HF.out]; rfl, (by repeat (first | (with_reducible exact grow_refl _) | (with_reducible assumption) | (with_reducible refine grow_alloc ?_ _) | (with_reducible refine grow_set ?_ (by first | exact Nat.le_refl _ | (simp; done) | (simp; omega) | omega) _) | (with_reducible refine grow_drewN ?_ _) | (with_reducible refine grow_drew ?_) | (with_reducible refine grow_step ?_ (by assumption)) | (with_reducible refine grow_base ?_ (by assumption))))⟩

set_option maxHeartbeats 400000 in
theorem fit_any (A : Option Addr) (c : Nat) (rs : List (Int × List Int)) (x0 x1 x2 x3 x4 x5 x6 x7 : Int) (w : World) (hA : RulesAt w A rs) (hok : ∀ r ∈ rs, okReg r.1 = true ∧ r.2.length ≤ 100000) (hbig : rs.length ≤ 9223372036854775806) :
    Calls Tryz.prog 46 #[.slice A rs.length c, .agg #[.int .i64 x0, .int .i64 x1, .int .i64 x2, .int .i64 x3, .int .i64 x4, .int .i64 x5, .int .i64 x6, .int .i64 x7]] w fun e w' => e = .returned (.bool (fitM rs [x0, x1, x2, x3, x4, x5, x6, x7])) ∧ Below w.heap.size w w' := by
  have HA := Lib.hid (hA.below (grow_alloc (grow_refl _) (.cells #[.int .i64 x0, .int .i64 x1, .int .i64 x2, .int .i64 x3, .int .i64 x4, .int .i64 x5, .int .i64 x6, .int .i64 x7] 54)))
  have HO := Lib.hid hok
  clear hA hok
  have HF : Hid (fitM rs [x0, x1, x2, x3, x4, x5, x6, x7] = !(rs.any (fitBad [x0, x1, x2, x3, x4, x5, x6, x7]))) := Lib.hid rfl
  go_enter Tryz.func46, Tryz.ntmps46
  go_wp2_with fail
  refine (containsRule_f1 _ x0 x1 x2 x3 x4 x5 x6 x7 A c rs _ HA.out (Box.new _ _ _) HO.out hbig).mono ?_
  rintro e w1 ⟨rfl, hb⟩
  go_wp2_with fail
  go_ret
  exact ⟨bool_eq HF.out.symm, (by repeat (first | (with_reducible exact grow_refl _) | (with_reducible assumption) | (with_reducible refine grow_alloc ?_ _) | (with_reducible refine grow_set ?_ (by first | exact Nat.le_refl _ | (simp; done) | (simp; omega) | omega) _) | (with_reducible refine grow_drewN ?_ _) | (with_reducible refine grow_drew ?_) | (with_reducible refine grow_step ?_ (by assumption)) | (with_reducible refine grow_base ?_ (by assumption))))⟩

theorem or_fact (m k : Nat) (d : Int) (hd : d = ((2 ^ k : Nat) : Int)) (hm : m < 256) (hk : k ≤ 7) : bits .or .i64 (m : Int) d = ((m ||| 2 ^ k : Nat) : Int) := by
  subst hd
  have h2 : 2 ^ k < 256 := Nat.lt_of_le_of_lt (Nat.pow_le_pow_right (by decide) hk) (by decide)
  have hx : m ||| 2 ^ k < 2 ^ 8 := Nat.or_lt_two_pow (n := 8) (by omega) (by omega)
  have e : ∀ a : Nat, a < 9223372036854775808 → (BitVec.ofInt 64 (a : Int)).toNat = a := fun a ha => by
    rw [BitVec.ofInt_natCast, BitVec.toNat_ofNat]; exact Nat.mod_eq_of_lt (by omega)
  show IntKind.i64.wrap ((BitVec.ofInt 64 (m : Int) ||| BitVec.ofInt 64 ((2 ^ k : Nat) : Int)).toNat : Int) = _
  rw [BitVec.toNat_or, e m (by omega), e (2 ^ k) (by omega), IntKind.wrap_i64]
  omega

set_option maxHeartbeats 2000000 in
theorem asks_any (A : Option Addr) (c : Nat) (rs : List (Int × List Int)) (w : World) (hA : RulesAt w A rs) (hok : ∀ r ∈ rs, okReg r.1 = true) (hbig : rs.length ≤ 9223372036854775806) :
    Calls Tryz.prog 45 #[.slice A rs.length c] w fun e w' => e = .returned (.int .i64 (askN rs : Nat)) ∧ Below w.heap.size w w' := by
  have HA := Lib.hid hA
  have HO := Lib.hid hok
  clear hA hok
  go_enter Tryz.func45, Tryz.ntmps45
  go_wp2
  go_loopw [3, 8] (fun o i wr => ∃ k : Nat, k ≤ rs.length ∧ i = .int .i64 k ∧ o = .int .i64 (askN (rs.take k) : Nat) ∧ Below w.heap.size w wr) (fun _ i _ => rs.length - (intOf i).toNat)
  case atStart => exact ⟨0, Nat.zero_le _, rfl, rfl, (by repeat (first | (with_reducible exact grow_refl _) | (with_reducible assumption) | (with_reducible refine grow_alloc ?_ _) | (with_reducible refine grow_set ?_ (by first | exact Nat.le_refl _ | (simp; done) | (simp; omega) | omega) _) | (with_reducible refine grow_drewN ?_ _) | (with_reducible refine grow_drew ?_) | (with_reducible refine grow_step ?_ (by assumption)) | (with_reducible refine grow_base ?_ (by assumption))))⟩
  case round =>
    obtain ⟨k, hk, rfl, rfl, hb⟩ := hrel
    by_cases hlt : k < rs.length
    · obtain ⟨b, off, GA, gc, rfl, _, h1, h2, _⟩ := (HA.out.below hb) k hlt
      have hs := take_snoc rs (0, []) k hlt
      obtain ⟨⟨x, g⟩, hxe⟩ : ∃ x, rs.getD k (0, []) = x := ⟨_, rfl⟩
      have hmem : (x, g) ∈ rs := by rw [← hxe, List.getD_eq_getElem?_getD, List.getElem?_eq_getElem hlt]; exact List.getElem_mem hlt
      have hx := HO.out _ hmem
      rw [hxe] at h1 h2 hs
      simp only at h1 h2 hx
      have hx' := okReg_yes hx
      have hlt256 : askN (rs.take k) < 256 := askN_lt (fun r hr => HO.out r (List.mem_of_mem_take hr))
      have HS : Hid (askN (rs.take (k + 1)) = askN (rs.take k) ||| 2 ^ x.toNat) := Lib.hid (by rw [hs, askN_snoc])
      have hcase : x = 0 ∨ x = 1 ∨ x = 2 ∨ x = 3 ∨ x = 4 ∨ x = 5 ∨ x = 6 ∨ x = 7 := by omega
      clear hs hxe hmem hx hx'
      obtain ⟨m, hm⟩ : ∃ m, askN (rs.take k) = m := ⟨_, rfl⟩
      rw [hm] at hlt256 HS
      have HM := Lib.hid hm
      rw [hm]
      clear hm
      rcases hcase with rfl | rfl | rfl | rfl | rfl | rfl | rfl | rfl
      · have ho := or_fact m 0 1 (by decide) hlt256 (by decide)
        go_wp2
        go_roundw
        case rel => exact ⟨k + 1, by omega, by go_num, by rw [HS.out]; rfl, (by repeat (first | (with_reducible exact grow_refl _) | (with_reducible assumption) | (with_reducible refine grow_alloc ?_ _) | (with_reducible refine grow_set ?_ (by first | exact Nat.le_refl _ | (simp; done) | (simp; omega) | omega) _) | (with_reducible refine grow_drewN ?_ _) | (with_reducible refine grow_drew ?_) | (with_reducible refine grow_step ?_ (by assumption)) | (with_reducible refine grow_base ?_ (by assumption))))⟩
        case measure => simp [intOf]; omega
      · have ho := or_fact m 1 2 (by decide) hlt256 (by decide)
        go_wp2
        go_roundw
        case rel => exact ⟨k + 1, by omega, by go_num, by rw [HS.out]; rfl, (by repeat (first | (with_reducible exact grow_refl _) | (with_reducible assumption) | (with_reducible refine grow_alloc ?_ _) | (with_reducible refine grow_set ?_ (by first | exact Nat.le_refl _ | (simp; done) | (simp; omega) | omega) _) | (with_reducible refine grow_drewN ?_ _) | (with_reducible refine grow_drew ?_) | (with_reducible refine grow_step ?_ (by assumption)) | (with_reducible refine grow_base ?_ (by assumption))))⟩
        case measure => simp [intOf]; omega
      · have ho := or_fact m 2 4 (by decide) hlt256 (by decide)
        go_wp2
        go_roundw
        case rel => exact ⟨k + 1, by omega, by go_num, by rw [HS.out]; rfl, (by repeat (first | (with_reducible exact grow_refl _) | (with_reducible assumption) | (with_reducible refine grow_alloc ?_ _) | (with_reducible refine grow_set ?_ (by first | exact Nat.le_refl _ | (simp; done) | (simp; omega) | omega) _) | (with_reducible refine grow_drewN ?_ _) | (with_reducible refine grow_drew ?_) | (with_reducible refine grow_step ?_ (by assumption)) | (with_reducible refine grow_base ?_ (by assumption))))⟩
        case measure => simp [intOf]; omega
      · have ho := or_fact m 3 8 (by decide) hlt256 (by decide)
        go_wp2
        go_roundw
        case rel => exact ⟨k + 1, by omega, by go_num, by rw [HS.out]; rfl, (by repeat (first | (with_reducible exact grow_refl _) | (with_reducible assumption) | (with_reducible refine grow_alloc ?_ _) | (with_reducible refine grow_set ?_ (by first | exact Nat.le_refl _ | (simp; done) | (simp; omega) | omega) _) | (with_reducible refine grow_drewN ?_ _) | (with_reducible refine grow_drew ?_) | (with_reducible refine grow_step ?_ (by assumption)) | (with_reducible refine grow_base ?_ (by assumption))))⟩
        case measure => simp [intOf]; omega
      · have ho := or_fact m 4 16 (by decide) hlt256 (by decide)
        go_wp2
        go_roundw
        case rel => exact ⟨k + 1, by omega, by go_num, by rw [HS.out]; rfl, (by repeat (first | (with_reducible exact grow_refl _) | (with_reducible assumption) | (with_reducible refine grow_alloc ?_ _) | (with_reducible refine grow_set ?_ (by first | exact Nat.le_refl _ | (simp; done) | (simp; omega) | omega) _) | (with_reducible refine grow_drewN ?_ _) | (with_reducible refine grow_drew ?_) | (with_reducible refine grow_step ?_ (by assumption)) | (with_reducible refine grow_base ?_ (by assumption))))⟩
        case measure => simp [intOf]; omega
      · have ho := or_fact m 5 32 (by decide) hlt256 (by decide)
        go_wp2
        go_roundw
        case rel => exact ⟨k + 1, by omega, by go_num, by rw [HS.out]; rfl, (by repeat (first | (with_reducible exact grow_refl _) | (with_reducible assumption) | (with_reducible refine grow_alloc ?_ _) | (with_reducible refine grow_set ?_ (by first | exact Nat.le_refl _ | (simp; done) | (simp; omega) | omega) _) | (with_reducible refine grow_drewN ?_ _) | (with_reducible refine grow_drew ?_) | (with_reducible refine grow_step ?_ (by assumption)) | (with_reducible refine grow_base ?_ (by assumption))))⟩
        case measure => simp [intOf]; omega
      · have ho := or_fact m 6 64 (by decide) hlt256 (by decide)
        go_wp2
        go_roundw
        case rel => exact ⟨k + 1, by omega, by go_num, by rw [HS.out]; rfl, (by repeat (first | (with_reducible exact grow_refl _) | (with_reducible assumption) | (with_reducible refine grow_alloc ?_ _) | (with_reducible refine grow_set ?_ (by first | exact Nat.le_refl _ | (simp; done) | (simp; omega) | omega) _) | (with_reducible refine grow_drewN ?_ _) | (with_reducible refine grow_drew ?_) | (with_reducible refine grow_step ?_ (by assumption)) | (with_reducible refine grow_base ?_ (by assumption))))⟩
        case measure => simp [intOf]; omega
      · have ho := or_fact m 7 128 (by decide) hlt256 (by decide)
        go_wp2
        go_roundw
        case rel => exact ⟨k + 1, by omega, by go_num, by rw [HS.out]; rfl, (by repeat (first | (with_reducible exact grow_refl _) | (with_reducible assumption) | (with_reducible refine grow_alloc ?_ _) | (with_reducible refine grow_set ?_ (by first | exact Nat.le_refl _ | (simp; done) | (simp; omega) | omega) _) | (with_reducible refine grow_drewN ?_ _) | (with_reducible refine grow_drew ?_) | (with_reducible refine grow_step ?_ (by assumption)) | (with_reducible refine grow_base ?_ (by assumption))))⟩
        case measure => simp [intOf]; omega
    · go_wp2
      go_ret
      exact ⟨by rw [List.take_of_length_le (by omega)]; rfl, (by repeat (first | (with_reducible exact grow_refl _) | (with_reducible assumption) | (with_reducible refine grow_alloc ?_ _) | (with_reducible refine grow_set ?_ (by first | exact Nat.le_refl _ | (simp; done) | (simp; omega) | omega) _) | (with_reducible refine grow_drewN ?_ _) | (with_reducible refine grow_drew ?_) | (with_reducible refine grow_step ?_ (by assumption)) | (with_reducible refine grow_base ?_ (by assumption))))⟩



end Go.Proofs.YtkipjloapdolbaaGreatDoor
