/- The walks of package bank. -/
import Derived.Test.YtnocigkfhdnhfaaDoorRows
import Derived.Test.YtnocigkfhdnhfaaDoorNum
import Derived.Test.YtnocigkfhdnhfaaDoorBase
import Derived.Test.YtnocigkfhdnhfaaDoorMeas
import Derived.Test.YtnocigkfhdnhfaaDoorApp
import Derived.WalkKit
import Derived.Lib.Hide
namespace Go.Proofs.YtnocigkfhdnhfaaDoor
open Go.RowKit

set_option maxHeartbeats 400000 in
theorem bankCheck1_any (n : Int) (w : World) :
    Calls Tryd.prog 96 #[.int .i64 n] w fun e w' => e = .returned (.bool (!okM n)) ∧ w = w' := by
  go_enter Tryd.func96, Tryd.ntmps96
  go_wp2_with (go_at_call 81; refine (mIs_any _ _).mono ?_; rintro e w' ⟨rfl, rfl⟩)
  go_ret
  exact ⟨rfl, rfl⟩

theorem any_take_step {xs : List Int} {pr : Int → Bool} (k : Nat) (h : k < xs.length) (hp : (xs.take k).any pr = false) (hk : pr (xs.getD k 0) = false) : (xs.take (k + 1)).any pr = false := by
  rw [take_snoc xs 0 k h, List.any_append, hp, List.any_cons, List.any_nil, hk]; rfl
theorem any_at {xs : List Int} {pr : Int → Bool} (k : Nat) (h : k < xs.length) (hk : pr (xs.getD k 0) = true) : xs.any pr = true := by
  rw [List.any_eq_true]
  refine ⟨xs.getD k 0, ?_, hk⟩
  rw [List.getD_eq_getElem?_getD, List.getElem?_eq_getElem h]; exact List.getElem_mem h

/-- Where something is so: an index from 0 on just if any is. -/
def IndexPost (b : Bool) (w : World) (e : Ending) (w' : World) : Prop := ∃ i : Int, e = .returned (.int .i64 i) ∧ -1 ≤ i ∧ i ≤ 9223372036854775806 ∧ (b = true → 0 ≤ i) ∧ (b = false → i < 0) ∧ w = w'

set_option maxHeartbeats 400000 in
theorem indexFunc_bc (A : Option Addr) (c : Nat) (xs : List Int) (w : World) (hA : IntsAt w A xs) (hbig : xs.length ≤ 9223372036854775806) :
    Calls Tryd.prog 103 #[.slice A xs.length c, .func (.func 96) #[] #[]] w (IndexPost (xs.any (fun n => !okM n)) w) := by
  have HA := Lib.hid hA
  clear hA
  go_enter Tryd.func103, Tryd.ntmps103
  go_wp2
  go_loop [5, 8] (fun _ i => ∃ k : Nat, k ≤ xs.length ∧ i = .int .i64 k ∧ Hid ((xs.take k).any (fun n => !okM n) = false)) (fun _ i => xs.length - (intOf i).toNat)
  case atStart => exact ⟨0, Nat.zero_le _, rfl, Lib.hid (by simp)⟩
  case round =>
    obtain ⟨k, hk, rfl, HP⟩ := hrel
    by_cases hlt : k < xs.length
    · obtain ⟨b, off, rfl, _, hc⟩ := HA.out k hlt
      obtain ⟨x, hxe⟩ : ∃ x, xs.getD k 0 = x := ⟨_, rfl⟩
      rw [hxe] at hc
      have HV := Lib.hid hxe
      clear hxe
      cases hp : (fun n => !okM n) x
      · have HQ := Lib.hid (any_take_step (pr := fun n => !okM n) k hlt HP.out (HV.out ▸ hp))
        go_wp2_with fail
        refine (bankCheck1_any x _).mono ?_
        rintro e w' ⟨rfl, rfl⟩
        go_wp2_with fail
        go_round
        case rel => exact ⟨k + 1, by omega, by go_num, HQ⟩
        case measure => simp [intOf]; omega
      · have HQ := Lib.hid (any_at (pr := fun n => !okM n) k hlt (HV.out ▸ hp))
        go_wp2_with fail
        refine (bankCheck1_any x _).mono ?_
        rintro e w' ⟨rfl, rfl⟩
        go_wp2_with fail
        go_ret
        exact ⟨k, rfl, by omega, by omega, fun _ => by omega, (fun h => by rw [HQ.out] at h; cases h), rfl⟩
    · have HQ : Hid (xs.any (fun n => !okM n) = false) := Lib.hid (by have := HP.out; rwa [List.take_of_length_le (by omega)] at this)
      go_wp2_with fail
      go_ret
      exact ⟨-1, rfl, by omega, by omega, (fun h => by rw [HQ.out] at h; cases h), fun _ => by omega, rfl⟩

set_option maxHeartbeats 400000 in
theorem containsFunc_bc (A : Option Addr) (c : Nat) (xs : List Int) (w : World) (hA : IntsAt w A xs) (hbig : xs.length ≤ 9223372036854775806) :
    Calls Tryd.prog 95 #[.slice A xs.length c, .func (.func 96) #[] #[]] w fun e w' => e = .returned (.bool (xs.any (fun n => !okM n))) ∧ w = w' := by
  have HC := Lib.hid (indexFunc_bc A c xs w hA hbig)
  clear hA
  cases h : xs.any (fun n => !okM n)
  · go_enter Tryd.func95, Tryd.ntmps95
    go_wp2_with fail
    refine HC.out.mono ?_
    rintro e w' ⟨i, rfl, i1, i2, i3, i4, rfl⟩
    have i5 := i4 h
    clear i3 i4 h
    go_wp2_with fail
    go_ret
    exact ⟨bool_eq (by simp; omega), rfl⟩
  · go_enter Tryd.func95, Tryd.ntmps95
    go_wp2_with fail
    refine HC.out.mono ?_
    rintro e w' ⟨i, rfl, i1, i2, i3, i4, rfl⟩
    have i5 := i3 h
    clear i3 i4 h
    go_wp2_with fail
    go_ret
    exact ⟨bool_eq (by simp; try omega), rfl⟩



set_option maxHeartbeats 1000000 in
theorem bankCheck_any (x0 x1 x2 x3 x4 x5 x6 x7 : Int) (w : World) :
    Calls Tryd.prog 79 #[.agg #[.int .i64 x0, .int .i64 x1, .int .i64 x2, .int .i64 x3, .int .i64 x4, .int .i64 x5, .int .i64 x6, .int .i64 x7]] w fun e w' => e = .returned (errV (bankE [x0, x1, x2, x3, x4, x5, x6, x7])) ∧ Below w.heap.size w w' := by
  obtain ⟨B, hB⟩ : ∃ B, [x0, x1, x2, x3, x4, x5, x6, x7] = B := ⟨_, rfl⟩
  have hany : B.any (fun n => !okM n) = !(B.all okM) := by rw [List.not_all_eq_any_not]
  rw [hB]
  cases h : B.all okM
  · have HE : Hid (bankE B = 1) := Lib.hid (by simp [bankE, h])
    rw [h] at hany
    have HN := Lib.hid hany
    clear hany h
    have H2 := Lib.hid hB
    clear hB
    go_enter Tryd.func79, Tryd.ntmps79
    go_wp2_with fail
    refine (containsFunc_bc _ 8 [x0, x1, x2, x3, x4, x5, x6, x7] _ (IntsAt.new_ _ _ _ _) (by simp)).mono ?_
    rintro e w' ⟨rfl, rfl⟩
    rw [H2.out, HN.out]
    go_wp2_with fail
    go_ret
    exact ⟨by rw [HE.out]; rfl, (by repeat (first | (with_reducible exact grow_refl _) | (with_reducible assumption) | (with_reducible refine grow_alloc ?_ _) | (with_reducible refine grow_set ?_ (by first | exact Nat.le_refl _ | (simp; done) | (simp; omega) | omega) _) | (with_reducible refine grow_drewN ?_ _) | (with_reducible refine grow_drew ?_) | (with_reducible refine grow_step ?_ (by assumption)) | (with_reducible refine grow_base ?_ (by assumption))))⟩
  · have HE : Hid (bankE B = 0) := Lib.hid (by simp [bankE, h])
    rw [h] at hany
    have HN := Lib.hid hany
    clear hany h
    have H2 := Lib.hid hB
    clear hB
    go_enter Tryd.func79, Tryd.ntmps79
    go_wp2_with fail
    refine (containsFunc_bc _ 8 [x0, x1, x2, x3, x4, x5, x6, x7] _ (IntsAt.new_ _ _ _ _) (by simp)).mono ?_
    rintro e w' ⟨rfl, rfl⟩
    rw [H2.out, HN.out]
    go_wp2_with fail
    go_ret
    exact ⟨by rw [HE.out]; rfl, (by repeat (first | (with_reducible exact grow_refl _) | (with_reducible assumption) | (with_reducible refine grow_alloc ?_ _) | (with_reducible refine grow_set ?_ (by first | exact Nat.le_refl _ | (simp; done) | (simp; omega) | omega) _) | (with_reducible refine grow_drewN ?_ _) | (with_reducible refine grow_drew ?_) | (with_reducible refine grow_step ?_ (by assumption)) | (with_reducible refine grow_base ?_ (by assumption))))⟩

set_option maxHeartbeats 400000 in
theorem register_any (n : Int) (w : World) :
    Calls Tryd.prog 80 #[.int .i64 n] w fun e w' => e = .returned (.bool (okReg n)) ∧ w = w' := by
  by_cases h1 : 0 ≤ n
  · by_cases h2 : n < 8
    · have h : okReg n = true := decide_eq_true (by omega)
      rw [h]
      go_enter Tryd.func80, Tryd.ntmps80
      go_wp2
      go_ret
      exact ⟨rfl, rfl⟩
    · have h : okReg n = false := decide_eq_false (by omega)
      rw [h]
      go_enter Tryd.func80, Tryd.ntmps80
      go_wp2
      go_ret
      exact ⟨rfl, rfl⟩
  · have h : okReg n = false := decide_eq_false (by omega)
    rw [h]
    go_enter Tryd.func80, Tryd.ntmps80
    go_wp2
    go_ret
    exact ⟨rfl, rfl⟩


theorem bit_fact (m : Int) (k : Nat) (d : Int) (hd : d = 2 ^ k) (h0 : 0 ≤ m) (h1 : m ≤ 255) : (bits .and .i64 (m / d) 1 == 1) = bitM m k := by
  subst hd
  obtain ⟨m, rfl⟩ := Int.eq_ofNat_of_zero_le h0
  have e : ((m : Int) / 2 ^ k) = ((m / 2 ^ k : Nat) : Int) := by rw [Int.natCast_ediv, Int.natCast_pow]; rfl
  have hlt : m / 2 ^ k < 9223372036854775808 := Nat.lt_of_le_of_lt (Nat.div_le_self _ _) (by omega)
  unfold bitM
  rw [e, and_one_i64 _ hlt]
  rfl

def ToldPost (b : List Int) (m : Int) (w : World) (e : Ending) (w' : World) : Prop :=
  ∃ A c zs, e = .returned (.slice A zs.length c) ∧ zs = toldM b m ∧ IntsAt w' A zs ∧ Below w.heap.size w w'




end Go.Proofs.YtnocigkfhdnhfaaDoor
