/- The walks of package bank. -/
import Derived.Test.YtegiffdlfpdbkaaGreatDoorRows
import Derived.Test.YtegiffdlfpdbkaaGreatDoorNum
import Derived.Test.YtegiffdlfpdbkaaGreatDoorBase
import Derived.Test.YtegiffdlfpdbkaaGreatDoorMeas
import Derived.Test.YtegiffdlfpdbkaaGreatDoorApp
import Derived.WalkKit
import Derived.Lib.Hide
namespace Go.Proofs.YtegiffdlfpdbkaaGreatDoor
open Go.RowKit

set_option maxHeartbeats 400000 in
theorem bankCheck1_any (n : Int) (w : World) :
    Calls Tryz.prog 100 #[.int .i64 n] w fun e w' => e = .returned (.bool (!okM n)) ∧ w = w' := by
  go_enter Tryz.func100, Tryz.ntmps100
  go_wp2_with (go_at_call 85; refine (mIs_any _ _).mono ?_; rintro e w' ⟨rfl, rfl⟩)
  go_ret
  exact ⟨rfl, rfl⟩

theorem any_take_step {xs : List Int} {pr : Int → Bool} (k : Nat) (h : k < xs.length) (hp : (xs.take k).any pr = false) (hk : pr (xs.getD k 0) = false) : (xs.take (k + 1)).any pr = false := by
  rw [take_snoc xs 0 k h, List.any_append, hp, List.any_cons, List.any_nil, hk]; rfl
theorem any_at {xs : List Int} {pr : Int → Bool} (k : Nat) (h : k < xs.length) (hk : pr (xs.getD k 0) = true) : xs.any pr = true := by
  rw [List.any_eq_true]
  refine ⟨xs.getD k 0, ?_, hk⟩
  rw [List.getD_eq_getElem?_getD, List.getElem?_eq_getElem h]; exact List.getElem_mem h

/-- Where something is so: an index from 0 on just if any is. -/
def IndexPost (b : Bool) (w : World) (e : Ending) (w' : World) : Prop := ∃ i : Int, e = .returned (.int .i64 i) ∧ -1 ≤ i ∧ i ≤ 9223372036854775806 ∧ (b = true → 0 ≤ i) ∧ (b = false → i < 0) ∧ w = w'

set_option maxHeartbeats 400000 in
theorem indexFunc_bc (A : Option Addr) (c : Nat) (xs : List Int) (w : World) (hA : IntsAt w A xs) (hbig : xs.length ≤ 9223372036854775806) :
    Calls Tryz.prog 115 #[.slice A xs.length c, .func (.func 100) #[] #[]] w (IndexPost (xs.any (fun n => !okM n)) w) := by
  have HA := Lib.hid hA
  clear hA
  go_enter Tryz.func115, Tryz.ntmps115
  go_wp2
  go_loop [5, 8] (fun _ i => ∃ k : Nat, k ≤ xs.length ∧ i = .int .i64 k ∧ Hid ((xs.take k).any (fun n => !okM n) = false)) (fun _ i => xs.length - (intOf i).toNat)
  case atStart => exact ⟨0, Nat.zero_le _, rfl, Lib.hid (by simp)⟩
  case round =>
    obtain ⟨k, hk, rfl, HP⟩ := hrel
    by_cases hlt : k < xs.length
    · obtain ⟨b, off, rfl, _, hc⟩ := HA.out k hlt
      obtain ⟨x, hxe⟩ : ∃ x, xs.getD k 0 = x := ⟨_, rfl⟩
      rw [hxe] at hc
      have HV := Lib.hid hxe
      clear hxe
      cases hp : (fun n => !okM n) x
      · have HQ := Lib.hid (any_take_step (pr := fun n => !okM n) k hlt HP.out (HV.out ▸ hp))
        go_wp2_with fail
        refine (bankCheck1_any x _).mono ?_
        rintro e w' ⟨rfl, rfl⟩
        go_wp2_with fail
        go_round
        case rel => exact ⟨k + 1, by omega, by go_num, HQ⟩
        case measure => simp [intOf]; omega
      · have HQ := Lib.hid (any_at (pr := fun n => !okM n) k hlt (HV.out ▸ hp))
        go_wp2_with fail
        refine (bankCheck1_any x _).mono ?_
        rintro e w' ⟨rfl, rfl⟩
        go_wp2_with fail
        go_ret
        exact ⟨k, rfl, by omega, by omega, fun _ => by omega, (fun h => by rw [HQ.out] at h; cases h), rfl⟩
    · have HQ : Hid (xs.any (fun n => !okM n) = false) := Lib.hid (by have := HP.out; rwa [List.take_of_length_le (by omega)] at this)
      go_wp2_with fail
      go_ret
      exact ⟨-1, rfl, by omega, by omega, (fun h => by rw [HQ.out] at h; cases h), fun _ => by omega, rfl⟩

set_option maxHeartbeats 400000 in
theorem containsFunc_bc (A : Option Addr) (c : Nat) (xs : List Int) (w : World) (hA : IntsAt w A xs) (hbig : xs.length ≤ 9223372036854775806) :
    Calls Tryz.prog 99 #[.slice A xs.length c, .func (.func 100) #[] #[]] w fun e w' => e = .returned (.bool (xs.any (fun n => !okM n))) ∧ w = w' := by
  have HC := Lib.hid (indexFunc_bc A c xs w hA hbig)
  clear hA
  cases h : xs.any (fun n => !okM n)
  · go_enter Tryz.func99, Tryz.ntmps99
    go_wp2_with fail
    refine HC.out.mono ?_
    rintro e w' ⟨i, rfl, i1, i2, i3, i4, rfl⟩
    have i5 := i4 h
    clear i3 i4 h
    go_wp2_with fail
    go_ret
    exact ⟨bool_eq (by simp; omega), rfl⟩
  · go_enter Tryz.func99, Tryz.ntmps99
    go_wp2_with fail
    refine HC.out.mono ?_
    rintro e w' ⟨i, rfl, i1, i2, i3, i4, rfl⟩
    have i5 := i3 h
    clear i3 i4 h
    go_wp2_with fail
    go_ret
    exact ⟨bool_eq (by simp; try omega), rfl⟩



set_option maxHeartbeats 1000000 in
theorem bankCheck_any (x0 x1 x2 x3 x4 x5 x6 x7 : Int) (w : World) :
    Calls Tryz.prog 78 #[.agg #[.int .i64 x0, .int .i64 x1, .int .i64 x2, .int .i64 x3, .int .i64 x4, .int .i64 x5, .int .i64 x6, .int .i64 x7]] w fun e w' => e = .returned (errV (bankE [x0, x1, x2, x3, x4, x5, x6, x7])) ∧ Below w.heap.size w w' := by
  obtain ⟨B, hB⟩ : ∃ B, [x0, x1, x2, x3, x4, x5, x6, x7] = B := ⟨_, rfl⟩
  have hany : B.any (fun n => !okM n) = !(B.all okM) := by rw [List.not_all_eq_any_not]
  rw [hB]
  cases h : B.all okM
  · have HE : Hid (bankE B = 1) := Lib.hid (by simp [bankE, h])
    rw [h] at hany
    have HN := Lib.hid hany
    clear hany h
    have H2 := Lib.hid hB
    clear hB
    go_enter Tryz.func78, Tryz.ntmps78
    go_wp2_with fail
    refine (containsFunc_bc _ 8 [x0, x1, x2, x3, x4, x5, x6, x7] _ (IntsAt.new_ _ _ _ _) (by simp)).mono ?_
    rintro e w' ⟨rfl, rfl⟩
    rw [H2.out, HN.out]
    go_wp2_with fail
    go_ret
    exact ⟨by rw [HE.out]; rfl, (by repeat (first | (with_reducible exact grow_refl _) | (with_reducible assumption) | (with_reducible refine grow_alloc ?_ _) | (with_reducible refine grow_set ?_ (by first | exact Nat.le_refl _ | (simp; done) | (simp; omega) | omega) _) | (with_reducible refine grow_drewN ?_ _) | (with_reducible refine grow_drew ?_) | (with_reducible refine grow_step ?_ (by assumption)) | (with_reducible refine grow_base ?_ (by assumption))))⟩
  · have HE : Hid (bankE B = 0) := Lib.hid (by simp [bankE, h])
    rw [h] at hany
    have HN := Lib.hid hany
    clear hany h
    have H2 := Lib.hid hB
    clear hB
    go_enter Tryz.func78, Tryz.ntmps78
    go_wp2_with fail
    refine (containsFunc_bc _ 8 [x0, x1, x2, x3, x4, x5, x6, x7] _ (IntsAt.new_ _ _ _ _) (by simp)).mono ?_
    rintro e w' ⟨rfl, rfl⟩
    rw [H2.out, HN.out]
    go_wp2_with fail
    go_ret
    exact ⟨by rw [HE.out]; rfl, (by repeat (first | (with_reducible exact grow_refl _) | (with_reducible assumption) | (with_reducible refine grow_alloc ?_ _) | (with_reducible refine grow_set ?_ (by first | exact Nat.le_refl _ | (simp; done) | (simp; omega) | omega) _) | (with_reducible refine grow_drewN ?_ _) | (with_reducible refine grow_drew ?_) | (with_reducible refine grow_step ?_ (by assumption)) | (with_reducible refine grow_base ?_ (by assumption))))⟩

set_option maxHeartbeats 400000 in
theorem register_any (n : Int) (w : World) :
    Calls Tryz.prog 97 #[.int .i64 n] w fun e w' => e = .returned (.bool (okReg n)) ∧ w = w' := by
  by_cases h1 : 0 ≤ n
  · by_cases h2 : n < 8
    · have h : okReg n = true := decide_eq_true (by omega)
      rw [h]
      go_enter Tryz.func97, Tryz.ntmps97
      go_wp2
      go_ret
      exact ⟨rfl, rfl⟩
    · have h : okReg n = false := decide_eq_false (by omega)
      rw [h]
      go_enter Tryz.func97, Tryz.ntmps97
      go_wp2
      go_ret
      exact ⟨rfl, rfl⟩
  · have h : okReg n = false := decide_eq_false (by omega)
    rw [h]
    go_enter Tryz.func97, Tryz.ntmps97
    go_wp2
    go_ret
    exact ⟨rfl, rfl⟩

set_option maxHeartbeats 400000 in
theorem mask_any (n : Int) (w : World) :
    Calls Tryz.prog 79 #[.int .i64 n] w fun e w' => e = .returned (.bool (okMask n)) ∧ w = w' := by
  by_cases h1 : 0 ≤ n
  · by_cases h2 : n ≤ 255
    · have h : okMask n = true := decide_eq_true (by omega)
      rw [h]
      go_enter Tryz.func79, Tryz.ntmps79
      go_wp2
      go_ret
      exact ⟨rfl, rfl⟩
    · have h : okMask n = false := decide_eq_false (by omega)
      rw [h]
      go_enter Tryz.func79, Tryz.ntmps79
      go_wp2
      go_ret
      exact ⟨rfl, rfl⟩
  · have h : okMask n = false := decide_eq_false (by omega)
    rw [h]
    go_enter Tryz.func79, Tryz.ntmps79
    go_wp2
    go_ret
    exact ⟨rfl, rfl⟩

theorem bit_fact (m : Int) (k : Nat) (d : Int) (hd : d = 2 ^ k) (h0 : 0 ≤ m) (h1 : m ≤ 255) : (bits .and .i64 (m / d) 1 == 1) = bitM m k := by
  subst hd
  obtain ⟨m, rfl⟩ := Int.eq_ofNat_of_zero_le h0
  have e : ((m : Int) / 2 ^ k) = ((m / 2 ^ k : Nat) : Int) := by rw [Int.natCast_ediv, Int.natCast_pow]; rfl
  have hlt : m / 2 ^ k < 9223372036854775808 := Nat.lt_of_le_of_lt (Nat.div_le_self _ _) (by omega)
  unfold bitM
  rw [e, and_one_i64 _ hlt]
  rfl

def ToldPost (b : List Int) (m : Int) (w : World) (e : Ending) (w' : World) : Prop :=
  ∃ A c zs, e = .returned (.slice A zs.length c) ∧ zs = toldM b m ∧ IntsAt w' A zs ∧ Below w.heap.size w w'

set_option maxHeartbeats 4000000 in
theorem told_any (x0 x1 x2 x3 x4 x5 x6 x7 : Int) (m : Int) (w : World) (h0 : 0 ≤ m) (h1 : m ≤ 255) :
    Calls Tryz.prog 102 #[.agg #[.int .i64 x0, .int .i64 x1, .int .i64 x2, .int .i64 x3, .int .i64 x4, .int .i64 x5, .int .i64 x6, .int .i64 x7], .int .i64 m] w (ToldPost [x0, x1, x2, x3, x4, x5, x6, x7] m w) := by
  obtain ⟨B, hB⟩ : ∃ B, [x0, x1, x2, x3, x4, x5, x6, x7] = B := ⟨_, rfl⟩
  rw [hB]
  have H2 := Lib.hid hB
  clear hB
  go_enter Tryz.func102, Tryz.ntmps102
  go_wp2
  go_loopw [5, 6, 7, 9] (fun o _ _ i wr => ∃ (k : Nat) (A : Option Addr) (c : Nat) (zs : List Int), k ≤ 8 ∧ i = .int .i64 k ∧ o = .slice A zs.length c ∧ OwnI wr w.heap.size A c zs ∧ Hid (zs = toldK B m k) ∧ Below w.heap.size w wr) (fun _ _ _ i _ => 8 - (intOf i).toNat)
  case atStart => exact ⟨0, none, 0, [], by omega, rfl, rfl, OwnI.start _ _, Lib.hid rfl, (by repeat (first | (with_reducible exact grow_refl _) | (with_reducible assumption) | (with_reducible refine grow_alloc ?_ _) | (with_reducible refine grow_set ?_ (by first | exact Nat.le_refl _ | (simp; done) | (simp; omega) | omega) _) | (with_reducible refine grow_drewN ?_ _) | (with_reducible refine grow_drew ?_) | (with_reducible refine grow_step ?_ (by assumption)) | (with_reducible refine grow_base ?_ (by assumption))))⟩
  case round =>
    obtain ⟨k, A, c, zs, hk, rfl, rfl, ho, HZ, hb⟩ := hrel
    have hlen : zs.length ≤ 8 := by rw [HZ.out]; exact Nat.le_trans (toldK_len _ _ _) hk
    have hcase : k = 0 ∨ k = 1 ∨ k = 2 ∨ k = 3 ∨ k = 4 ∨ k = 5 ∨ k = 6 ∨ k = 7 ∨ k = 8 := by omega
    clear hk
    rcases hcase with rfl | rfl | rfl | rfl | rfl | rfl | rfl | rfl | rfl
    · have ht := bit_fact m 0 1 (by decide) h0 h1
      have ix : ∀ w, (Instr.index 30 (.agg #[.int .i64 x0, .int .i64 x1, .int .i64 x2, .int .i64 x3, .int .i64 x4, .int .i64 x5, .int .i64 x6, .int .i64 x7]) (.int .i64 0)).run Tryz.prog w = .ok (.int .i64 x0) w := fun _ => by kernel_rfl
      have hx : B.getD 0 0 = x0 := by rw [← H2.out]; rfl
      have hs := toldK_succ B m 0
      rw [hx] at hs
      rw [Int.ediv_one] at ht
      cases hbit : bitM m 0
      · rw [hbit] at hs ht
        have HN : Hid (zs = toldK B m 1) := Lib.hid (by rw [hs, HZ.out]; simp)
        clear hs hx hbit
        go_wp2
        go_roundw
        case rel => exact ⟨1, A, c, zs, by omega, by go_num, rfl, ho, HN, hb⟩
        case measure => simp [intOf]
      · rw [hbit] at hs ht
        have HN : Hid (zs ++ [x0] = toldK B m 1) := Lib.hid (by rw [hs, HZ.out]; simp)
        clear hs hx hbit
        go_wp2_with (at_builtin; refine app_ints rfl _ _ rfl w.heap.size A c zs rfl (ho.below ((Below.refl _ _).alloc (Nat.le_refl _) _)) _ 1 [x0] rfl (IntsAt.new_ _ _ [x0] _) (by simp; omega) (grow_alloc hb _).size ?_; intro A2 c2 zs2 w2 hz2 ho2 hb2)
        go_roundw
        case rel => exact ⟨1, A2, c2, zs2, by omega, by go_num, rfl, ho2, Lib.hid (by rw [hz2.out, HN.out]), (by repeat (first | (with_reducible exact grow_refl _) | (with_reducible assumption) | (with_reducible refine grow_alloc ?_ _) | (with_reducible refine grow_set ?_ (by first | exact Nat.le_refl _ | (simp; done) | (simp; omega) | omega) _) | (with_reducible refine grow_drewN ?_ _) | (with_reducible refine grow_drew ?_) | (with_reducible refine grow_step ?_ (by assumption)) | (with_reducible refine grow_base ?_ (by assumption))))⟩
        case measure => simp [intOf]
    · have ht := bit_fact m 1 2 (by decide) h0 h1
      have ix : ∀ w, (Instr.index 30 (.agg #[.int .i64 x0, .int .i64 x1, .int .i64 x2, .int .i64 x3, .int .i64 x4, .int .i64 x5, .int .i64 x6, .int .i64 x7]) (.int .i64 1)).run Tryz.prog w = .ok (.int .i64 x1) w := fun _ => by kernel_rfl
      have hx : B.getD 1 0 = x1 := by rw [← H2.out]; rfl
      have hs := toldK_succ B m 1
      rw [hx] at hs
      cases hbit : bitM m 1
      · rw [hbit] at hs ht
        have HN : Hid (zs = toldK B m 2) := Lib.hid (by rw [hs, HZ.out]; simp)
        clear hs hx hbit
        go_wp2
        go_roundw
        case rel => exact ⟨2, A, c, zs, by omega, by go_num, rfl, ho, HN, hb⟩
        case measure => simp [intOf]
      · rw [hbit] at hs ht
        have HN : Hid (zs ++ [x1] = toldK B m 2) := Lib.hid (by rw [hs, HZ.out]; simp)
        clear hs hx hbit
        go_wp2_with (at_builtin; refine app_ints rfl _ _ rfl w.heap.size A c zs rfl (ho.below ((Below.refl _ _).alloc (Nat.le_refl _) _)) _ 1 [x1] rfl (IntsAt.new_ _ _ [x1] _) (by simp; omega) (grow_alloc hb _).size ?_; intro A2 c2 zs2 w2 hz2 ho2 hb2)
        go_roundw
        case rel => exact ⟨2, A2, c2, zs2, by omega, by go_num, rfl, ho2, Lib.hid (by rw [hz2.out, HN.out]), (by repeat (first | (with_reducible exact grow_refl _) | (with_reducible assumption) | (with_reducible refine grow_alloc ?_ _) | (with_reducible refine grow_set ?_ (by first | exact Nat.le_refl _ | (simp; done) | (simp; omega) | omega) _) | (with_reducible refine grow_drewN ?_ _) | (with_reducible refine grow_drew ?_) | (with_reducible refine grow_step ?_ (by assumption)) | (with_reducible refine grow_base ?_ (by assumption))))⟩
        case measure => simp [intOf]
    · have ht := bit_fact m 2 4 (by decide) h0 h1
      have ix : ∀ w, (Instr.index 30 (.agg #[.int .i64 x0, .int .i64 x1, .int .i64 x2, .int .i64 x3, .int .i64 x4, .int .i64 x5, .int .i64 x6, .int .i64 x7]) (.int .i64 2)).run Tryz.prog w = .ok (.int .i64 x2) w := fun _ => by kernel_rfl
      have hx : B.getD 2 0 = x2 := by rw [← H2.out]; rfl
      have hs := toldK_succ B m 2
      rw [hx] at hs
      cases hbit : bitM m 2
      · rw [hbit] at hs ht
        have HN : Hid (zs = toldK B m 3) := Lib.hid (by rw [hs, HZ.out]; simp)
        clear hs hx hbit
        go_wp2
        go_roundw
        case rel => exact ⟨3, A, c, zs, by omega, by go_num, rfl, ho, HN, hb⟩
        case measure => simp [intOf]
      · rw [hbit] at hs ht
        have HN : Hid (zs ++ [x2] = toldK B m 3) := Lib.hid (by rw [hs, HZ.out]; simp)
        clear hs hx hbit
        go_wp2_with (at_builtin; refine app_ints rfl _ _ rfl w.heap.size A c zs rfl (ho.below ((Below.refl _ _).alloc (Nat.le_refl _) _)) _ 1 [x2] rfl (IntsAt.new_ _ _ [x2] _) (by simp; omega) (grow_alloc hb _).size ?_; intro A2 c2 zs2 w2 hz2 ho2 hb2)
        go_roundw
        case rel => exact ⟨3, A2, c2, zs2, by omega, by go_num, rfl, ho2, Lib.hid (by rw [hz2.out, HN.out]), (by repeat (first | (with_reducible exact grow_refl _) | (with_reducible assumption) | (with_reducible refine grow_alloc ?_ _) | (with_reducible refine grow_set ?_ (by first | exact Nat.le_refl _ | (simp; done) | (simp; omega) | omega) _) | (with_reducible refine grow_drewN ?_ _) | (with_reducible refine grow_drew ?_) | (with_reducible refine grow_step ?_ (by assumption)) | (with_reducible refine grow_base ?_ (by assumption))))⟩
        case measure => simp [intOf]
    · have ht := bit_fact m 3 8 (by decide) h0 h1
      have ix : ∀ w, (Instr.index 30 (.agg #[.int .i64 x0, .int .i64 x1, .int .i64 x2, .int .i64 x3, .int .i64 x4, .int .i64 x5, .int .i64 x6, .int .i64 x7]) (.int .i64 3)).run Tryz.prog w = .ok (.int .i64 x3) w := fun _ => by kernel_rfl
      have hx : B.getD 3 0 = x3 := by rw [← H2.out]; rfl
      have hs := toldK_succ B m 3
      rw [hx] at hs
      cases hbit : bitM m 3
      · rw [hbit] at hs ht
        have HN : Hid (zs = toldK B m 4) := Lib.hid (by rw [hs, HZ.out]; simp)
        clear hs hx hbit
        go_wp2
        go_roundw
        case rel => exact ⟨4, A, c, zs, by omega, by go_num, rfl, ho, HN, hb⟩
        case measure => simp [intOf]
      · rw [hbit] at hs ht
        have HN : Hid (zs ++ [x3] = toldK B m 4) := Lib.hid (by rw [hs, HZ.out]; simp)
        clear hs hx hbit
        go_wp2_with (at_builtin; refine app_ints rfl _ _ rfl w.heap.size A c zs rfl (ho.below ((Below.refl _ _).alloc (Nat.le_refl _) _)) _ 1 [x3] rfl (IntsAt.new_ _ _ [x3] _) (by simp; omega) (grow_alloc hb _).size ?_; intro A2 c2 zs2 w2 hz2 ho2 hb2)
        go_roundw
        case rel => exact ⟨4, A2, c2, zs2, by omega, by go_num, rfl, ho2, Lib.hid (by rw [hz2.out, HN.out]), (by repeat (first | (with_reducible exact grow_refl _) | (with_reducible assumption) | (with_reducible refine grow_alloc ?_ _) | (with_reducible refine grow_set ?_ (by first | exact Nat.le_refl _ | (simp; done) | (simp; omega) | omega) _) | (with_reducible refine grow_drewN ?_ _) | (with_reducible refine grow_drew ?_) | (with_reducible refine grow_step ?_ (by assumption)) | (with_reducible refine grow_base ?_ (by assumption))))⟩
        case measure => simp [intOf]
    · have ht := bit_fact m 4 16 (by decide) h0 h1
      have ix : ∀ w, (Instr.index 30 (.agg #[.int .i64 x0, .int .i64 x1, .int .i64 x2, .int .i64 x3, .int .i64 x4, .int .i64 x5, .int .i64 x6, .int .i64 x7]) (.int .i64 4)).run Tryz.prog w = .ok (.int .i64 x4) w := fun _ => by kernel_rfl
      have hx : B.getD 4 0 = x4 := by rw [← H2.out]; rfl
      have hs := toldK_succ B m 4
      rw [hx] at hs
      cases hbit : bitM m 4
      · rw [hbit] at hs ht
        have HN : Hid (zs = toldK B m 5) := Lib.hid (by rw [hs, HZ.out]; simp)
        clear hs hx hbit
        go_wp2
        go_roundw
        case rel => exact ⟨5, A, c, zs, by omega, by go_num, rfl, ho, HN, hb⟩
        case measure => simp [intOf]
      · rw [hbit] at hs ht
        have HN : Hid (zs ++ [x4] = toldK B m 5) := Lib.hid (by rw [hs, HZ.out]; simp)
        clear hs hx hbit
        go_wp2_with (at_builtin; refine app_ints rfl _ _ rfl w.heap.size A c zs rfl (ho.below ((Below.refl _ _).alloc (Nat.le_refl _) _)) _ 1 [x4] rfl (IntsAt.new_ _ _ [x4] _) (by simp; omega) (grow_alloc hb _).size ?_; intro A2 c2 zs2 w2 hz2 ho2 hb2)
        go_roundw
        case rel => exact ⟨5, A2, c2, zs2, by omega, by go_num, rfl, ho2, Lib.hid (by rw [hz2.out, HN.out]), (by repeat (first | (with_reducible exact grow_refl _) | (with_reducible assumption) | (with_reducible refine grow_alloc ?_ _) | (with_reducible refine grow_set ?_ (by first | exact Nat.le_refl _ | (simp; done) | (simp; omega) | omega) _) | (with_reducible refine grow_drewN ?_ _) | (with_reducible refine grow_drew ?_) | (with_reducible refine grow_step ?_ (by assumption)) | (with_reducible refine grow_base ?_ (by assumption))))⟩
        case measure => simp [intOf]
    · have ht := bit_fact m 5 32 (by decide) h0 h1
      have ix : ∀ w, (Instr.index 30 (.agg #[.int .i64 x0, .int .i64 x1, .int .i64 x2, .int .i64 x3, .int .i64 x4, .int .i64 x5, .int .i64 x6, .int .i64 x7]) (.int .i64 5)).run Tryz.prog w = .ok (.int .i64 x5) w := fun _ => by kernel_rfl
      have hx : B.getD 5 0 = x5 := by rw [← H2.out]; rfl
      have hs := toldK_succ B m 5
      rw [hx] at hs
      cases hbit : bitM m 5
      · rw [hbit] at hs ht
        have HN : Hid (zs = toldK B m 6) := Lib.hid (by rw [hs, HZ.out]; simp)
        clear hs hx hbit
        go_wp2
        go_roundw
        case rel => exact ⟨6, A, c, zs, by omega, by go_num, rfl, ho, HN, hb⟩
        case measure => simp [intOf]
      · rw [hbit] at hs ht
        have HN : Hid (zs ++ [x5] = toldK B m 6) := Lib.hid (by rw [hs, HZ.out]; simp)
        clear hs hx hbit
        go_wp2_with (at_builtin; refine app_ints rfl _ _ rfl w.heap.size A c zs rfl (ho.below ((Below.refl _ _).alloc (Nat.le_refl _) _)) _ 1 [x5] rfl (IntsAt.new_ _ _ [x5] _) (by simp; omega) (grow_alloc hb _).size ?_; intro A2 c2 zs2 w2 hz2 ho2 hb2)
        go_roundw
        case rel => exact ⟨6, A2, c2, zs2, by omega, by go_num, rfl, ho2, Lib.hid (by rw [hz2.out, HN.out]), (by repeat (first | (with_reducible exact grow_refl _) | (with_reducible assumption) | (with_reducible refine grow_alloc ?_ _) | (with_reducible refine grow_set ?_ (by first | exact Nat.le_refl _ | (simp; done) | (simp; omega) | omega) _) | (with_reducible refine grow_drewN ?_ _) | (with_reducible refine grow_drew ?_) | (with_reducible refine grow_step ?_ (by assumption)) | (with_reducible refine grow_base ?_ (by assumption))))⟩
        case measure => simp [intOf]
    · have ht := bit_fact m 6 64 (by decide) h0 h1
      have ix : ∀ w, (Instr.index 30 (.agg #[.int .i64 x0, .int .i64 x1, .int .i64 x2, .int .i64 x3, .int .i64 x4, .int .i64 x5, .int .i64 x6, .int .i64 x7]) (.int .i64 6)).run Tryz.prog w = .ok (.int .i64 x6) w := fun _ => by kernel_rfl
      have hx : B.getD 6 0 = x6 := by rw [← H2.out]; rfl
      have hs := toldK_succ B m 6
      rw [hx] at hs
      cases hbit : bitM m 6
      · rw [hbit] at hs ht
        have HN : Hid (zs = toldK B m 7) := Lib.hid (by rw [hs, HZ.out]; simp)
        clear hs hx hbit
        go_wp2
        go_roundw
        case rel => exact ⟨7, A, c, zs, by omega, by go_num, rfl, ho, HN, hb⟩
        case measure => simp [intOf]
      · rw [hbit] at hs ht
        have HN : Hid (zs ++ [x6] = toldK B m 7) := Lib.hid (by rw [hs, HZ.out]; simp)
        clear hs hx hbit
        go_wp2_with (at_builtin; refine app_ints rfl _ _ rfl w.heap.size A c zs rfl (ho.below ((Below.refl _ _).alloc (Nat.le_refl _) _)) _ 1 [x6] rfl (IntsAt.new_ _ _ [x6] _) (by simp; omega) (grow_alloc hb _).size ?_; intro A2 c2 zs2 w2 hz2 ho2 hb2)
        go_roundw
        case rel => exact ⟨7, A2, c2, zs2, by omega, by go_num, rfl, ho2, Lib.hid (by rw [hz2.out, HN.out]), (by repeat (first | (with_reducible exact grow_refl _) | (with_reducible assumption) | (with_reducible refine grow_alloc ?_ _) | (with_reducible refine grow_set ?_ (by first | exact Nat.le_refl _ | (simp; done) | (simp; omega) | omega) _) | (with_reducible refine grow_drewN ?_ _) | (with_reducible refine grow_drew ?_) | (with_reducible refine grow_step ?_ (by assumption)) | (with_reducible refine grow_base ?_ (by assumption))))⟩
        case measure => simp [intOf]
    · have ht := bit_fact m 7 128 (by decide) h0 h1
      have ix : ∀ w, (Instr.index 30 (.agg #[.int .i64 x0, .int .i64 x1, .int .i64 x2, .int .i64 x3, .int .i64 x4, .int .i64 x5, .int .i64 x6, .int .i64 x7]) (.int .i64 7)).run Tryz.prog w = .ok (.int .i64 x7) w := fun _ => by kernel_rfl
      have hx : B.getD 7 0 = x7 := by rw [← H2.out]; rfl
      have hs := toldK_succ B m 7
      rw [hx] at hs
      cases hbit : bitM m 7
      · rw [hbit] at hs ht
        have HN : Hid (zs = toldK B m 8) := Lib.hid (by rw [hs, HZ.out]; simp)
        clear hs hx hbit
        go_wp2
        go_roundw
        case rel => exact ⟨8, A, c, zs, by omega, by go_num, rfl, ho, HN, hb⟩
        case measure => simp [intOf]
      · rw [hbit] at hs ht
        have HN : Hid (zs ++ [x7] = toldK B m 8) := Lib.hid (by rw [hs, HZ.out]; simp)
        clear hs hx hbit
        go_wp2_with (at_builtin; refine app_ints rfl _ _ rfl w.heap.size A c zs rfl (ho.below ((Below.refl _ _).alloc (Nat.le_refl _) _)) _ 1 [x7] rfl (IntsAt.new_ _ _ [x7] _) (by simp; omega) (grow_alloc hb _).size ?_; intro A2 c2 zs2 w2 hz2 ho2 hb2)
        go_roundw
        case rel => exact ⟨8, A2, c2, zs2, by omega, by go_num, rfl, ho2, Lib.hid (by rw [hz2.out, HN.out]), (by repeat (first | (with_reducible exact grow_refl _) | (with_reducible assumption) | (with_reducible refine grow_alloc ?_ _) | (with_reducible refine grow_set ?_ (by first | exact Nat.le_refl _ | (simp; done) | (simp; omega) | omega) _) | (with_reducible refine grow_drewN ?_ _) | (with_reducible refine grow_drew ?_) | (with_reducible refine grow_step ?_ (by assumption)) | (with_reducible refine grow_base ?_ (by assumption))))⟩
        case measure => simp [intOf]
    · go_wp2
      go_ret
      exact ⟨A, c, zs, rfl, HZ.out, ho.ints, hb⟩

set_option maxHeartbeats 400000 in
theorem bankIs_any (x0 x1 x2 x3 x4 x5 x6 x7 : Int) (m : Int) (w : World) (h0 : 0 ≤ m) (h1 : m ≤ 255) (hok : [x0, x1, x2, x3, x4, x5, x6, x7].all okM = true) :
    Calls Tryz.prog 80 #[.agg #[.int .i64 x0, .int .i64 x1, .int .i64 x2, .int .i64 x3, .int .i64 x4, .int .i64 x5, .int .i64 x6, .int .i64 x7], .int .i64 m] w fun e w' => e = .returned (.int .i64 (isM [x0, x1, x2, x3, x4, x5, x6, x7] m)) ∧ Below w.heap.size w w' := by
  have HK := Lib.hid (toldM_ok m hok)
  have HL : Hid ((toldM [x0, x1, x2, x3, x4, x5, x6, x7] m).length ≤ 1000000) := Lib.hid (Nat.le_trans (toldK_len _ _ _) (by decide))
  clear hok
  go_enter Tryz.func80, Tryz.ntmps80
  go_wp2_with fail
  refine (told_any x0 x1 x2 x3 x4 x5 x6 x7 m _ h0 h1).mono ?_
  rintro e w1 ⟨A, c, zs, rfl, hz, hi, hb⟩
  have HZ := Lib.hid hz
  clear hz
  go_wp2_with fail
  refine (row_any A c zs _ hi (by rw [HZ.out]; exact HK.out) (by rw [HZ.out]; exact HL.out)).mono ?_
  rintro e w2 ⟨rfl, rfl⟩
  go_wp2_with fail
  go_ret
  exact ⟨i64_lit (by rw [HZ.out]; rfl), (by repeat (first | (with_reducible exact grow_refl _) | (with_reducible assumption) | (with_reducible refine grow_alloc ?_ _) | (with_reducible refine grow_set ?_ (by first | exact Nat.le_refl _ | (simp; done) | (simp; omega) | omega) _) | (with_reducible refine grow_drewN ?_ _) | (with_reducible refine grow_drew ?_) | (with_reducible refine grow_step ?_ (by assumption)) | (with_reducible refine grow_base ?_ (by assumption))))⟩

set_option maxHeartbeats 1000000 in
theorem digest_any (x0 x1 x2 x3 x4 x5 x6 x7 : Int) (m : Int) (w : World) :
    Calls Tryz.prog 61 #[.agg #[.int .i64 x0, .int .i64 x1, .int .i64 x2, .int .i64 x3, .int .i64 x4, .int .i64 x5, .int .i64 x6, .int .i64 x7], .int .i64 m] w fun e w' => e = .returned (.tuple #[.int .i64 (digM [x0, x1, x2, x3, x4, x5, x6, x7] m), errV (digE [x0, x1, x2, x3, x4, x5, x6, x7] m)]) ∧ Below w.heap.size w w' := by
  have en := fun k w => err_neq k w
  have gn := fun o k w => err_guard_neq o k w
  cases hok : [x0, x1, x2, x3, x4, x5, x6, x7].all okM
  · have HD : Hid (digM [x0, x1, x2, x3, x4, x5, x6, x7] m = 0 ∧ digE [x0, x1, x2, x3, x4, x5, x6, x7] m = 1) := Lib.hid (by simp only [digM, digE, hok]; exact ⟨rfl, rfl⟩)
    have hE : bankE [x0, x1, x2, x3, x4, x5, x6, x7] = 1 := by simp only [bankE, hok]; rfl
    clear hok
    go_enter Tryz.func61, Tryz.ntmps61
    go_wp2_with fail
    refine (bankCheck_any x0 x1 x2 x3 x4 x5 x6 x7 _).mono ?_
    rintro e w1 ⟨rfl, hb⟩
    have BX := (Box.new _ _ _).below hb
    have c1 := BX.cell
    rw [hE]
    go_wp2_with (go_at_call 79; refine (mask_any _ _).mono ?_; rintro e w' ⟨rfl, rfl⟩)
    go_ret2
    exact ⟨by rw [HD.out.1, HD.out.2]; rfl, (by repeat (first | (with_reducible exact grow_refl _) | (with_reducible assumption) | (with_reducible refine grow_alloc ?_ _) | (with_reducible refine grow_set ?_ (by first | exact Nat.le_refl _ | (simp; done) | (simp; omega) | omega) _) | (with_reducible refine grow_drewN ?_ _) | (with_reducible refine grow_drew ?_) | (with_reducible refine grow_step ?_ (by assumption)) | (with_reducible refine grow_base ?_ (by assumption))))⟩
  · have hE : bankE [x0, x1, x2, x3, x4, x5, x6, x7] = 0 := by simp only [bankE, hok]; rfl
    cases hm : okMask m
    · have HD : Hid (digM [x0, x1, x2, x3, x4, x5, x6, x7] m = 0 ∧ digE [x0, x1, x2, x3, x4, x5, x6, x7] m = 1) := Lib.hid (by simp only [digM, digE, hok, hm]; exact ⟨rfl, rfl⟩)
      clear hok
      go_enter Tryz.func61, Tryz.ntmps61
      go_wp2_with fail
      refine (bankCheck_any x0 x1 x2 x3 x4 x5 x6 x7 _).mono ?_
      rintro e w1 ⟨rfl, hb⟩
      have BX := (Box.new _ _ _).below hb
      have c1 := BX.cell
      rw [hE]
      go_wp2_with (go_at_call 79; refine (mask_any _ _).mono ?_; rintro e w' ⟨rfl, rfl⟩)
      go_ret2
      exact ⟨by rw [HD.out.1, HD.out.2]; rfl, (by repeat (first | (with_reducible exact grow_refl _) | (with_reducible assumption) | (with_reducible refine grow_alloc ?_ _) | (with_reducible refine grow_set ?_ (by first | exact Nat.le_refl _ | (simp; done) | (simp; omega) | omega) _) | (with_reducible refine grow_drewN ?_ _) | (with_reducible refine grow_drew ?_) | (with_reducible refine grow_step ?_ (by assumption)) | (with_reducible refine grow_base ?_ (by assumption))))⟩
    · have HD : Hid (digM [x0, x1, x2, x3, x4, x5, x6, x7] m = isM [x0, x1, x2, x3, x4, x5, x6, x7] m ∧ digE [x0, x1, x2, x3, x4, x5, x6, x7] m = 0) := Lib.hid (by simp only [digM, digE, hok, hm]; exact ⟨rfl, rfl⟩)
      obtain ⟨m1, m2⟩ := okMask_yes hm
      have HK := Lib.hid hok
      clear hok
      go_enter Tryz.func61, Tryz.ntmps61
      go_wp2_with fail
      refine (bankCheck_any x0 x1 x2 x3 x4 x5 x6 x7 _).mono ?_
      rintro e w1 ⟨rfl, hb⟩
      have BX := (Box.new _ _ _).below hb
      have c1 := BX.cell
      rw [hE]
      go_wp2_with (first | (go_at_call 79; refine (mask_any _ _).mono ?_; rintro e w' ⟨rfl, rfl⟩) | (go_at_call 80; refine (bankIs_any x0 x1 x2 x3 x4 x5 x6 x7 _ _ m1 m2 HK.out).mono ?_; rintro e w2 ⟨rfl, hb2⟩))
      go_ret2
      exact ⟨by rw [HD.out.1, HD.out.2]; rfl, (by repeat (first | (with_reducible exact grow_refl _) | (with_reducible assumption) | (with_reducible refine grow_alloc ?_ _) | (with_reducible refine grow_set ?_ (by first | exact Nat.le_refl _ | (simp; done) | (simp; omega) | omega) _) | (with_reducible refine grow_drewN ?_ _) | (with_reducible refine grow_drew ?_) | (with_reducible refine grow_step ?_ (by assumption)) | (with_reducible refine grow_base ?_ (by assumption))))⟩

end Go.Proofs.YtegiffdlfpdbkaaGreatDoor
