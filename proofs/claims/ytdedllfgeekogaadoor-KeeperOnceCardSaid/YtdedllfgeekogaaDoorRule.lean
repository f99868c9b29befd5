/- The walks of package rule. -/
import Derived.Test.YtdedllfgeekogaaDoorRows
import Derived.Test.YtdedllfgeekogaaDoorNum
import Derived.Test.YtdedllfgeekogaaDoorBase
import Derived.Test.YtdedllfgeekogaaDoorMeas
import Derived.Test.YtdedllfgeekogaaDoorBank
import Derived.WalkKit
import Derived.Lib.Hide
import Derived.Deep.RegionHeld3
import Derived.Deep.QuietTactic
import Derived.BigQuiet
namespace Go.Proofs.YtdedllfgeekogaaDoor
open Go.RowKit

/-- Rules: a register, and what is good. -/
def RulesAt (w : World) (A : Option Addr) (rs : List (Int × List Int)) : Prop :=
  ∀ i, i < rs.length → ∃ b off GA gc, A = some ⟨b, off, none⟩ ∧ b < w.heap.size ∧ w.cell? ⟨b, off + i * 2, none⟩ = some (.int .i64 (rs.getD i (0, [])).1) ∧
    w.cell? ⟨b, off + i * 2 + 1, none⟩ = some (.slice GA (rs.getD i (0, [])).2.length gc) ∧ IntsAt w GA (rs.getD i (0, [])).2
theorem RulesAt.below {w w' : World} {A : Option Addr} {rs : List (Int × List Int)} (h : RulesAt w A rs) (hb : Below w.heap.size w w') : RulesAt w' A rs := fun i hi => by
  obtain ⟨b, off, GA, gc, e, hlt, h1, h2, h3⟩ := h i hi
  exact ⟨b, off, GA, gc, e, Nat.lt_of_lt_of_le hlt hb.size, (hb.cell (p := ⟨b, off + i * 2, none⟩) hlt).trans h1, (hb.cell (p := ⟨b, off + i * 2 + 1, none⟩) hlt).trans h2, h3.below hb⟩
theorem RulesAt.nil_ (w : World) (A : Option Addr) : RulesAt w A [] := fun i hi => absurd hi (by simp)


theorem anyR_step {rs : List (Int × List Int)} {pr : Int × List Int → Bool} (k : Nat) (h : k < rs.length) (hp : (rs.take k).any pr = false) (hk : pr (rs.getD k (0, [])) = false) : (rs.take (k + 1)).any pr = false := by
  rw [take_snoc rs (0, []) k h, List.any_append, hp, List.any_cons, List.any_nil, hk]; rfl
theorem anyR_at {rs : List (Int × List Int)} {pr : Int × List Int → Bool} (k : Nat) (h : k < rs.length) (hk : pr (rs.getD k (0, [])) = true) : rs.any pr = true := by
  rw [List.any_eq_true]
  refine ⟨rs.getD k (0, []), ?_, hk⟩
  rw [List.getD_eq_getElem?_getD, List.getElem?_eq_getElem h]; exact List.getElem_mem h

def IndexPostB (b : Bool) (w : World) (e : Ending) (w' : World) : Prop := ∃ i : Int, e = .returned (.int .i64 i) ∧ -1 ≤ i ∧ i ≤ 9223372036854775806 ∧ (b = true → 0 ≤ i) ∧ (b = false → i < 0) ∧ Below w.heap.size w w'

set_option maxHeartbeats 400000 in
theorem index_any (A : Option Addr) (c : Nat) (xs : List Int) (v : Int) (w : World) (hA : IntsAt w A xs) (hbig : xs.length ≤ 9223372036854775806) :
    Calls Tryd.prog 90 #[.slice A xs.length c, .int .i64 v] w (IndexPost (xs.any (fun x => v == x)) w) := by
  have HA := Lib.hid hA
  clear hA
  go_enter Tryd.func90, Tryd.ntmps90
  go_wp2
  go_loop [5, 8] (fun _ i => ∃ k : Nat, k ≤ xs.length ∧ i = .int .i64 k ∧ Hid ((xs.take k).any (fun x => v == x) = false)) (fun _ i => xs.length - (intOf i).toNat)
  case atStart => exact ⟨0, Nat.zero_le _, rfl, Lib.hid (by simp)⟩
  case round =>
    obtain ⟨k, hk, rfl, HP⟩ := hrel
    by_cases hlt : k < xs.length
    · obtain ⟨b, off, rfl, _, hc⟩ := HA.out k hlt
      obtain ⟨x, hxe⟩ : ∃ x, xs.getD k 0 = x := ⟨_, rfl⟩
      rw [hxe] at hc
      have HV := Lib.hid hxe
      clear hxe
      cases hp : v == x
      · have HQ := Lib.hid (any_take_step (pr := fun x => v == x) k hlt HP.out (HV.out ▸ hp))
        go_wp2
        go_round
        case rel => exact ⟨k + 1, by omega, by go_num, HQ⟩
        case measure => simp [intOf]; omega
      · have HQ := Lib.hid (any_at (pr := fun x => v == x) k hlt (HV.out ▸ hp))
        go_wp2
        go_ret
        exact ⟨k, rfl, by omega, by omega, fun _ => by omega, (fun h => by rw [HQ.out] at h; cases h), rfl⟩
    · have HQ : Hid (xs.any (fun x => v == x) = false) := Lib.hid (by have := HP.out; rwa [List.take_of_length_le (by omega)] at this)
      go_wp2
      go_ret
      exact ⟨-1, rfl, by omega, by omega, (fun h => by rw [HQ.out] at h; cases h), fun _ => by omega, rfl⟩

set_option maxHeartbeats 400000 in
theorem contains_any (A : Option Addr) (c : Nat) (xs : List Int) (v : Int) (w : World) (hA : IntsAt w A xs) (hbig : xs.length ≤ 9223372036854775806) :
    Calls Tryd.prog 86 #[.slice A xs.length c, .int .i64 v] w fun e w' => e = .returned (.bool (xs.any (fun x => v == x))) ∧ w = w' := by
  have HC := Lib.hid (index_any A c xs v w hA hbig)
  clear hA
  cases h : xs.any (fun x => v == x)
  · go_enter Tryd.func86, Tryd.ntmps86
    go_wp2_with fail
    refine HC.out.mono ?_
    rintro e w' ⟨i, rfl, i1, i2, i3, i4, rfl⟩
    have i5 := i4 h
    clear i3 i4 h
    go_wp2_with fail
    go_ret
    exact ⟨bool_eq (by simp; omega), rfl⟩
  · go_enter Tryd.func86, Tryd.ntmps86
    go_wp2_with fail
    refine HC.out.mono ?_
    rintro e w' ⟨i, rfl, i1, i2, i3, i4, rfl⟩
    have i5 := i3 h
    clear i3 i4 h
    go_wp2_with fail
    go_ret
    exact ⟨bool_eq (by simp; try omega), rfl⟩

set_option maxHeartbeats 400000 in
theorem ruleCheck1_any (n : Int) (w : World) :
    Calls Tryd.prog 81 #[.int .i64 n] w fun e w' => e = .returned (.bool (!okM n)) ∧ w = w' := by
  go_enter Tryd.func81, Tryd.ntmps81
  go_wp2_with (go_at_call 44; refine (mIs_any _ _).mono ?_; rintro e w' ⟨rfl, rfl⟩)
  go_ret
  exact ⟨rfl, rfl⟩

set_option maxHeartbeats 400000 in
theorem indexFunc_rc (A : Option Addr) (c : Nat) (xs : List Int) (w : World) (hA : IntsAt w A xs) (hbig : xs.length ≤ 9223372036854775806) :
    Calls Tryd.prog 107 #[.slice A xs.length c, .func (.func 81) #[] #[]] w (IndexPost (xs.any (fun n => !okM n)) w) := by
  have HA := Lib.hid hA
  clear hA
  go_enter Tryd.func107, Tryd.ntmps107
  go_wp2
  go_loop [5, 8] (fun _ i => ∃ k : Nat, k ≤ xs.length ∧ i = .int .i64 k ∧ Hid ((xs.take k).any (fun n => !okM n) = false)) (fun _ i => xs.length - (intOf i).toNat)
  case atStart => exact ⟨0, Nat.zero_le _, rfl, Lib.hid (by simp)⟩
  case round =>
    obtain ⟨k, hk, rfl, HP⟩ := hrel
    by_cases hlt : k < xs.length
    · obtain ⟨b, off, rfl, _, hc⟩ := HA.out k hlt
      obtain ⟨x, hxe⟩ : ∃ x, xs.getD k 0 = x := ⟨_, rfl⟩
      rw [hxe] at hc
      have HV := Lib.hid hxe
      clear hxe
      cases hp : (fun n => !okM n) x
      · have HQ := Lib.hid (any_take_step (pr := fun n => !okM n) k hlt HP.out (HV.out ▸ hp))
        go_wp2_with fail
        refine (ruleCheck1_any x _).mono ?_
        rintro e w' ⟨rfl, rfl⟩
        go_wp2_with fail
        go_round
        case rel => exact ⟨k + 1, by omega, by go_num, HQ⟩
        case measure => simp [intOf]; omega
      · have HQ := Lib.hid (any_at (pr := fun n => !okM n) k hlt (HV.out ▸ hp))
        go_wp2_with fail
        refine (ruleCheck1_any x _).mono ?_
        rintro e w' ⟨rfl, rfl⟩
        go_wp2_with fail
        go_ret
        exact ⟨k, rfl, by omega, by omega, fun _ => by omega, (fun h => by rw [HQ.out] at h; cases h), rfl⟩
    · have HQ : Hid (xs.any (fun n => !okM n) = false) := Lib.hid (by have := HP.out; rwa [List.take_of_length_le (by omega)] at this)
      go_wp2_with fail
      go_ret
      exact ⟨-1, rfl, by omega, by omega, (fun h => by rw [HQ.out] at h; cases h), fun _ => by omega, rfl⟩

set_option maxHeartbeats 400000 in
theorem containsFunc_rc (A : Option Addr) (c : Nat) (xs : List Int) (w : World) (hA : IntsAt w A xs) (hbig : xs.length ≤ 9223372036854775806) :
    Calls Tryd.prog 80 #[.slice A xs.length c, .func (.func 81) #[] #[]] w fun e w' => e = .returned (.bool (xs.any (fun n => !okM n))) ∧ w = w' := by
  have HC := Lib.hid (indexFunc_rc A c xs w hA hbig)
  clear hA
  cases h : xs.any (fun n => !okM n)
  · go_enter Tryd.func80, Tryd.ntmps80
    go_wp2_with fail
    refine HC.out.mono ?_
    rintro e w' ⟨i, rfl, i1, i2, i3, i4, rfl⟩
    have i5 := i4 h
    clear i3 i4 h
    go_wp2_with fail
    go_ret
    exact ⟨bool_eq (by simp; omega), rfl⟩
  · go_enter Tryd.func80, Tryd.ntmps80
    go_wp2_with fail
    refine HC.out.mono ?_
    rintro e w' ⟨i, rfl, i1, i2, i3, i4, rfl⟩
    have i5 := i3 h
    clear i3 i4 h
    go_wp2_with fail
    go_ret
    exact ⟨bool_eq (by simp; try omega), rfl⟩



/-- What Check's second closure holds: the rule at hand. -/
def Cap2 (w : World) (cb : Nat) (reg : Int) : Prop := cb < w.heap.size ∧ w.cell? ⟨cb, 0, none⟩ = some (.int .i64 reg)
theorem Cap2.below {w w' : World} {cb : Nat} {reg : Int} (h : Cap2 w cb reg) (hb : Below w.heap.size w w') : Cap2 w' cb reg :=
  ⟨Nat.lt_of_lt_of_le h.1 hb.size, (hb.cell (p := ⟨cb, 0, none⟩) h.1).trans h.2⟩

set_option maxHeartbeats 400000 in
theorem ruleCheck2_any (x : Int) (GA : Option Addr) (n gc cb : Nat) (reg : Int) (w : World) (hc : Cap2 w cb reg) :
    Calls Tryd.prog 83 #[.agg #[.int .i64 x, .slice GA n gc], .pointer (some ⟨cb, 0, none⟩)] w fun e w' => e = .returned (.bool (x == reg)) ∧ Below w.heap.size w w' := by
  obtain ⟨h1, h2⟩ := hc
  go_enter Tryd.func83, Tryd.ntmps83
  go_wp2
  go_ret
  exact ⟨rfl, (by repeat (first | (with_reducible exact grow_refl _) | (with_reducible assumption) | (with_reducible refine grow_alloc ?_ _) | (with_reducible refine grow_set ?_ (by first | exact Nat.le_refl _ | (simp; done) | (simp; omega) | omega) _) | (with_reducible refine grow_drewN ?_ _) | (with_reducible refine grow_drew ?_) | (with_reducible refine grow_step ?_ (by assumption)) | (with_reducible refine grow_base ?_ (by assumption))))⟩

set_option maxHeartbeats 1000000 in
theorem indexRule_c2 (cb : Nat) (reg : Int) (A : Option Addr) (c : Nat) (rs : List (Int × List Int)) (w : World) (hA : RulesAt w A rs) (hcap : Cap2 w cb reg) (hok : ∀ x ∈ rs, True) (hbig : rs.length ≤ 9223372036854775806) :
    Calls Tryd.prog 108 #[.slice A rs.length c, .func (.func 83) #[] #[.pointer (some ⟨cb, 0, none⟩)]] w (IndexPostB (rs.any (fun x => x.1 == reg)) w) := by
  have HA := Lib.hid hA
  have HC := Lib.hid hcap
  have HOK := Lib.hid hok
  clear hA hcap hok
  go_enter Tryd.func108, Tryd.ntmps108
  go_wp2
  go_loopw [5, 8] (fun _ i wr => ∃ k : Nat, k ≤ rs.length ∧ i = .int .i64 k ∧ Hid ((rs.take k).any (fun x => x.1 == reg) = false) ∧ Below w.heap.size w wr) (fun _ i _ => rs.length - (intOf i).toNat)
  case atStart => exact ⟨0, Nat.zero_le _, rfl, Lib.hid (by simp), (by repeat (first | (with_reducible exact grow_refl _) | (with_reducible assumption) | (with_reducible refine grow_alloc ?_ _) | (with_reducible refine grow_set ?_ (by first | exact Nat.le_refl _ | (simp; done) | (simp; omega) | omega) _) | (with_reducible refine grow_drewN ?_ _) | (with_reducible refine grow_drew ?_) | (with_reducible refine grow_step ?_ (by assumption)) | (with_reducible refine grow_base ?_ (by assumption))))⟩
  case round =>
    obtain ⟨k, hk, rfl, HP, hb⟩ := hrel
    by_cases hlt : k < rs.length
    · obtain ⟨b, off, GA, gc, rfl, _, h1, h2, hI⟩ := (HA.out.below hb) k hlt
      have hcr := HC.out.below hb
      have HCR := Lib.hid hcr
      clear hcr
      obtain ⟨⟨x, g⟩, hxe⟩ : ∃ x, rs.getD k (0, []) = x := ⟨_, rfl⟩
      rw [hxe] at h1 h2 hI
      simp only at h1 h2 hI
      have HV := Lib.hid hxe
      have hmem : (x, g) ∈ rs := by rw [← hxe, List.getD_eq_getElem?_getD, List.getElem?_eq_getElem hlt]; exact List.getElem_mem hlt
      have hk1 := HOK.out _ hmem
      clear hmem hxe
      cases hp : ((fun x => x.1 == reg) : Int × List Int → Bool) (x, g)
      · have HQ := Lib.hid (anyR_step (pr := (fun x => x.1 == reg)) k hlt HP.out (HV.out ▸ hp))
        simp only at hp hk1
        go_wp2_with (go_at_call 83; refine (ruleCheck2_any _ _ _ _ _ _ _ HCR.out).mono ?_; rintro e w1 ⟨rfl, hb1⟩)
        go_roundw
        case rel => exact ⟨k + 1, by omega, by go_num, HQ, (by repeat (first | (with_reducible exact grow_refl _) | (with_reducible assumption) | (with_reducible refine grow_alloc ?_ _) | (with_reducible refine grow_set ?_ (by first | exact Nat.le_refl _ | (simp; done) | (simp; omega) | omega) _) | (with_reducible refine grow_drewN ?_ _) | (with_reducible refine grow_drew ?_) | (with_reducible refine grow_step ?_ (by assumption)) | (with_reducible refine grow_base ?_ (by assumption))))⟩
        case measure => simp [intOf]; omega
      · have HQ := Lib.hid (anyR_at (pr := (fun x => x.1 == reg)) k hlt (HV.out ▸ hp))
        simp only at hp hk1
        go_wp2_with (go_at_call 83; refine (ruleCheck2_any _ _ _ _ _ _ _ HCR.out).mono ?_; rintro e w1 ⟨rfl, hb1⟩)
        go_ret
        exact ⟨k, rfl, by omega, by omega, fun _ => by omega, (fun h => by rw [HQ.out] at h; cases h), (by repeat (first | (with_reducible exact grow_refl _) | (with_reducible assumption) | (with_reducible refine grow_alloc ?_ _) | (with_reducible refine grow_set ?_ (by first | exact Nat.le_refl _ | (simp; done) | (simp; omega) | omega) _) | (with_reducible refine grow_drewN ?_ _) | (with_reducible refine grow_drew ?_) | (with_reducible refine grow_step ?_ (by assumption)) | (with_reducible refine grow_base ?_ (by assumption))))⟩
    · have HQ : Hid (rs.any (fun x => x.1 == reg) = false) := Lib.hid (by have := HP.out; rwa [List.take_of_length_le (by omega)] at this)
      go_wp2_with fail
      go_ret
      exact ⟨-1, rfl, by omega, by omega, (fun h => by rw [HQ.out] at h; cases h), fun _ => by omega, (by repeat (first | (with_reducible exact grow_refl _) | (with_reducible assumption) | (with_reducible refine grow_alloc ?_ _) | (with_reducible refine grow_set ?_ (by first | exact Nat.le_refl _ | (simp; done) | (simp; omega) | omega) _) | (with_reducible refine grow_drewN ?_ _) | (with_reducible refine grow_drew ?_) | (with_reducible refine grow_step ?_ (by assumption)) | (with_reducible refine grow_base ?_ (by assumption))))⟩

set_option maxHeartbeats 400000 in
theorem containsRule_c2 (cb : Nat) (reg : Int) (A : Option Addr) (c : Nat) (rs : List (Int × List Int)) (w : World) (hA : RulesAt w A rs) (hcap : Cap2 w cb reg) (hok : ∀ x ∈ rs, True) (hbig : rs.length ≤ 9223372036854775806) :
    Calls Tryd.prog 82 #[.slice A rs.length c, .func (.func 83) #[] #[.pointer (some ⟨cb, 0, none⟩)]] w fun e w' => e = .returned (.bool (rs.any (fun x => x.1 == reg))) ∧ Below w.heap.size w w' := by
  have HC := Lib.hid (indexRule_c2 cb reg A c rs w hA hcap hok hbig)
  clear hA hcap hok
  cases h : rs.any (fun x => x.1 == reg)
  · go_enter Tryd.func82, Tryd.ntmps82
    go_wp2_with fail
    refine HC.out.mono ?_
    rintro e w' ⟨i, rfl, i1, i2, i3, i4, hb⟩
    have i5 := i4 h
    clear i3 i4 h
    go_wp2_with fail
    go_ret
    exact ⟨bool_eq (by simp; omega), hb⟩
  · go_enter Tryd.func82, Tryd.ntmps82
    go_wp2_with fail
    refine HC.out.mono ?_
    rintro e w' ⟨i, rfl, i1, i2, i3, i4, hb⟩
    have i5 := i3 h
    clear i3 i4 h
    go_wp2_with fail
    go_ret
    exact ⟨bool_eq (by simp; try omega), hb⟩

set_option maxHeartbeats 1000000 in
theorem fit1_any (x : Int) (GA : Option Addr) (gc cb : Nat) (g : List Int) (x0 x1 x2 x3 x4 x5 x6 x7 : Int) (w : World) (hB : Box w cb 38 #[.int .i64 x0, .int .i64 x1, .int .i64 x2, .int .i64 x3, .int .i64 x4, .int .i64 x5, .int .i64 x6, .int .i64 x7]) (hI : IntsAt w GA g) (hx : okReg x = true) (hbig : g.length ≤ 1000000) :
    Calls Tryd.prog 85 #[.agg #[.int .i64 x, .slice GA g.length gc], .pointer (some ⟨cb, 0, none⟩)] w fun e w' => e = .returned (.bool (fitBad [x0, x1, x2, x3, x4, x5, x6, x7] (x, g))) ∧ Below w.heap.size w w' := by
  have hi' := okReg_yes hx
  have hcase : x = 0 ∨ x = 1 ∨ x = 2 ∨ x = 3 ∨ x = 4 ∨ x = 5 ∨ x = 6 ∨ x = 7 := by omega
  clear hi' hx
  have hB2 := hB.below (grow_alloc (grow_refl _) (.cells #[.int .i64 x, .slice GA g.length gc] 45))
  have HI := Lib.hid (hI.below (grow_alloc (grow_refl _) (.cells #[.int .i64 x, .slice GA g.length gc] 45)))
  have hc := hB2.cell
  have hl := hB.lt
  have HB := Lib.hid hB2
  clear hB hI hB2
  rcases hcase with rfl | rfl | rfl | rfl | rfl | rfl | rfl | rfl
  all_goals
    go_enter Tryd.func85, Tryd.ntmps85
    go_wp2
    go_quiet ((go_at_call 86; exact Calls.quiet_of_same ((contains_any _ _ _ _ _ (HI.out.below (grow_drewN (grow_refl _) _)) (by omega)).mono (fun _ _ h => ⟨h.1, h.2.symm⟩))))
    go_wp2
    go_ret
    exact ⟨rfl, (by repeat (first | (with_reducible exact grow_refl _) | (with_reducible assumption) | (with_reducible refine grow_alloc ?_ _) | (with_reducible refine grow_set ?_ (by first | exact Nat.le_refl _ | (simp; done) | (simp; omega) | omega) _) | (with_reducible refine grow_drewN ?_ _) | (with_reducible refine grow_drew ?_) | (with_reducible refine grow_step ?_ (by assumption)) | (with_reducible refine grow_base ?_ (by assumption))))⟩

set_option maxHeartbeats 1000000 in
theorem indexRule_f1 (cb : Nat) (x0 x1 x2 x3 x4 x5 x6 x7 : Int) (A : Option Addr) (c : Nat) (rs : List (Int × List Int)) (w : World) (hA : RulesAt w A rs) (hcap : Box w cb 38 #[.int .i64 x0, .int .i64 x1, .int .i64 x2, .int .i64 x3, .int .i64 x4, .int .i64 x5, .int .i64 x6, .int .i64 x7]) (hok : ∀ x ∈ rs, okReg x.1 = true ∧ x.2.length ≤ 100000) (hbig : rs.length ≤ 9223372036854775806) :
    Calls Tryd.prog 108 #[.slice A rs.length c, .func (.func 85) #[] #[.pointer (some ⟨cb, 0, none⟩)]] w (IndexPostB (rs.any (fitBad [x0, x1, x2, x3, x4, x5, x6, x7])) w) := by
  have HA := Lib.hid hA
  have HC := Lib.hid hcap
  have HOK := Lib.hid hok
  clear hA hcap hok
  go_enter Tryd.func108, Tryd.ntmps108
  go_wp2
  go_loopw [5, 8] (fun _ i wr => ∃ k : Nat, k ≤ rs.length ∧ i = .int .i64 k ∧ Hid ((rs.take k).any (fitBad [x0, x1, x2, x3, x4, x5, x6, x7]) = false) ∧ Below w.heap.size w wr) (fun _ i _ => rs.length - (intOf i).toNat)
  case atStart => exact ⟨0, Nat.zero_le _, rfl, Lib.hid (by simp), (by repeat (first | (with_reducible exact grow_refl _) | (with_reducible assumption) | (with_reducible refine grow_alloc ?_ _) | (with_reducible refine grow_set ?_ (by first | exact Nat.le_refl _ | (simp; done) | (simp; omega) | omega) _) | (with_reducible refine grow_drewN ?_ _) | (with_reducible refine grow_drew ?_) | (with_reducible refine grow_step ?_ (by assumption)) | (with_reducible refine grow_base ?_ (by assumption))))⟩
  case round =>
    obtain ⟨k, hk, rfl, HP, hb⟩ := hrel
    by_cases hlt : k < rs.length
    · obtain ⟨b, off, GA, gc, rfl, _, h1, h2, hI⟩ := (HA.out.below hb) k hlt
      have hcr := HC.out.below hb
      have HCR := Lib.hid hcr
      clear hcr
      obtain ⟨⟨x, g⟩, hxe⟩ : ∃ x, rs.getD k (0, []) = x := ⟨_, rfl⟩
      rw [hxe] at h1 h2 hI
      simp only at h1 h2 hI
      have HV := Lib.hid hxe
      have hmem : (x, g) ∈ rs := by rw [← hxe, List.getD_eq_getElem?_getD, List.getElem?_eq_getElem hlt]; exact List.getElem_mem hlt
      have hk1 := HOK.out _ hmem
      clear hmem hxe
      cases hp : ((fitBad [x0, x1, x2, x3, x4, x5, x6, x7]) : Int × List Int → Bool) (x, g)
      · have HQ := Lib.hid (anyR_step (pr := (fitBad [x0, x1, x2, x3, x4, x5, x6, x7])) k hlt HP.out (HV.out ▸ hp))
        simp only at hp hk1
        obtain ⟨hk1, hk2⟩ := hk1
        go_wp2_with (go_at_call 85; refine (fit1_any _ _ _ _ _ x0 x1 x2 x3 x4 x5 x6 x7 _ HCR.out hI hk1 (by omega)).mono ?_; rintro e w1 ⟨rfl, hb1⟩)
        go_roundw
        case rel => exact ⟨k + 1, by omega, by go_num, HQ, (by repeat (first | (with_reducible exact grow_refl _) | (with_reducible assumption) | (with_reducible refine grow_alloc ?_ _) | (with_reducible refine grow_set ?_ (by first | exact Nat.le_refl _ | (simp; done) | (simp; omega) | omega) _) | (with_reducible refine grow_drewN ?_ _) | (with_reducible refine grow_drew ?_) | (with_reducible refine grow_step ?_ (by assumption)) | (with_reducible refine grow_base ?_ (by assumption))))⟩
        case measure => simp [intOf]; omega
      · have HQ := Lib.hid (anyR_at (pr := (fitBad [x0, x1, x2, x3, x4, x5, x6, x7])) k hlt (HV.out ▸ hp))
        simp only at hp hk1
        obtain ⟨hk1, hk2⟩ := hk1
        go_wp2_with (go_at_call 85; refine (fit1_any _ _ _ _ _ x0 x1 x2 x3 x4 x5 x6 x7 _ HCR.out hI hk1 (by omega)).mono ?_; rintro e w1 ⟨rfl, hb1⟩)
        go_ret
        exact ⟨k, rfl, by omega, by omega, fun _ => by omega, (fun h => by rw [HQ.out] at h; cases h), (by repeat (first | (with_reducible exact grow_refl _) | (with_reducible assumption) | (with_reducible refine grow_alloc ?_ _) | (with_reducible refine grow_set ?_ (by first | exact Nat.le_refl _ | (simp; done) | (simp; omega) | omega) _) | (with_reducible refine grow_drewN ?_ _) | (with_reducible refine grow_drew ?_) | (with_reducible refine grow_step ?_ (by assumption)) | (with_reducible refine grow_base ?_ (by assumption))))⟩
    · have HQ : Hid (rs.any (fitBad [x0, x1, x2, x3, x4, x5, x6, x7]) = false) := Lib.hid (by have := HP.out; rwa [List.take_of_length_le (by omega)] at this)
      go_wp2_with fail
      go_ret
      exact ⟨-1, rfl, by omega, by omega, (fun h => by rw [HQ.out] at h; cases h), fun _ => by omega, (by repeat (first | (with_reducible exact grow_refl _) | (with_reducible assumption) | (with_reducible refine grow_alloc ?_ _) | (with_reducible refine grow_set ?_ (by first | exact Nat.le_refl _ | (simp; done) | (simp; omega) | omega) _) | (with_reducible refine grow_drewN ?_ _) | (with_reducible refine grow_drew ?_) | (with_reducible refine grow_step ?_ (by assumption)) | (with_reducible refine grow_base ?_ (by assumption))))⟩

set_option maxHeartbeats 400000 in
theorem containsRule_f1 (cb : Nat) (x0 x1 x2 x3 x4 x5 x6 x7 : Int) (A : Option Addr) (c : Nat) (rs : List (Int × List Int)) (w : World) (hA : RulesAt w A rs) (hcap : Box w cb 38 #[.int .i64 x0, .int .i64 x1, .int .i64 x2, .int .i64 x3, .int .i64 x4, .int .i64 x5, .int .i64 x6, .int .i64 x7]) (hok : ∀ x ∈ rs, okReg x.1 = true ∧ x.2.length ≤ 100000) (hbig : rs.length ≤ 9223372036854775806) :
    Calls Tryd.prog 82 #[.slice A rs.length c, .func (.func 85) #[] #[.pointer (some ⟨cb, 0, none⟩)]] w fun e w' => e = .returned (.bool (rs.any (fitBad [x0, x1, x2, x3, x4, x5, x6, x7]))) ∧ Below w.heap.size w w' := by
  have HC := Lib.hid (indexRule_f1 cb x0 x1 x2 x3 x4 x5 x6 x7 A c rs w hA hcap hok hbig)
  clear hA hcap hok
  cases h : rs.any (fitBad [x0, x1, x2, x3, x4, x5, x6, x7])
  · go_enter Tryd.func82, Tryd.ntmps82
    go_wp2_with fail
    refine HC.out.mono ?_
    rintro e w' ⟨i, rfl, i1, i2, i3, i4, hb⟩
    have i5 := i4 h
    clear i3 i4 h
    go_wp2_with fail
    go_ret
    exact ⟨bool_eq (by simp; omega), hb⟩
  · go_enter Tryd.func82, Tryd.ntmps82
    go_wp2_with fail
    refine HC.out.mono ?_
    rintro e w' ⟨i, rfl, i1, i2, i3, i4, hb⟩
    have i5 := i3 h
    clear i3 i4 h
    go_wp2_with fail
    go_ret
    exact ⟨bool_eq (by simp; try omega), hb⟩


end Go.Proofs.YtdedllfgeekogaaDoor
