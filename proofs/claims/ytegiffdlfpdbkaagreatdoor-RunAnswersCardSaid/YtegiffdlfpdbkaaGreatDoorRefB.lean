/- The walks of the reference: banks, masks, digests. -/
import Derived.Test.YtegiffdlfpdbkaaGreatDoorRows
import Derived.Test.YtegiffdlfpdbkaaGreatDoorNum
import Derived.Test.YtegiffdlfpdbkaaGreatDoorBase
import Derived.Test.YtegiffdlfpdbkaaGreatDoorMeas
import Derived.Test.YtegiffdlfpdbkaaGreatDoorApp
import Derived.Test.YtegiffdlfpdbkaaGreatDoorBank
import Derived.Test.YtegiffdlfpdbkaaGreatDoorRefA
import Derived.WalkKit
import Derived.Lib.Hide
namespace Go.Proofs.YtegiffdlfpdbkaaGreatDoor
open Go.RowKit

set_option maxHeartbeats 400000 in
theorem rIs_any (n : Int) (w : World) :
    Calls Tryz.prog 17 #[.int .i64 n] w fun e w' => e = .returned (.bool (okM n)) ∧ w = w' := by
  by_cases h1 : 0 ≤ n
  · by_cases h2 : n < 1000003
    · have h : okM n = true := okM_mk h1 (by omega)
      rw [h]
      go_enter Tryz.func17, Tryz.ntmps17
      go_wp2
      go_ret
      exact ⟨rfl, rfl⟩
    · have h : okM n = false := decide_eq_false (by omega)
      rw [h]
      go_enter Tryz.func17, Tryz.ntmps17
      go_wp2
      go_ret
      exact ⟨rfl, rfl⟩
  · have h : okM n = false := decide_eq_false (by omega)
    rw [h]
    go_enter Tryz.func17, Tryz.ntmps17
    go_wp2
    go_ret
    exact ⟨rfl, rfl⟩

theorem bit_nat (M k : Nat) : (((M / 2 ^ k : Nat) : Int) % 2 == 1) = bitM M k := by
  unfold bitM
  rw [Int.natCast_ediv, Int.natCast_pow]; rfl

set_option maxHeartbeats 400000 in
theorem rAsks_nat (M k : Nat) (w : World) (h1 : M ≤ 255) (hk : k ≤ 1000) :
    Calls Tryz.prog 37 #[.int .i64 M, .int .i64 k] w fun e w' => e = .returned (.bool (bitM M k)) ∧ w = w' := by
  have HB := Lib.hid (bit_nat M k)
  go_enter Tryz.func37, Tryz.ntmps37
  go_wp2
  go_loop [0, 5] (fun m i => ∃ (j n : Nat), j ≤ k ∧ n ≤ 255 ∧ Hid (n = M / 2 ^ j) ∧ i = .int .i64 j ∧ m = .int .i64 n) (fun _ i => k - (intOf i).toNat)
  case atStart => exact ⟨0, M, Nat.zero_le _, h1, Lib.hid (by simp), rfl, rfl⟩
  case round =>
    obtain ⟨j, n, hj, hn, HN, rfl, rfl⟩ := hrel
    by_cases hlt : j < k
    · go_wp2
      go_round
      case rel => exact ⟨j + 1, n / 2, by omega, by omega, Lib.hid (by rw [HN.out, Nat.div_div_eq_div_mul, Nat.pow_succ]), by go_num, i64_eq (by omega)⟩
      case measure => simp [intOf]; omega
    · obtain rfl : j = k := by omega
      go_wp2
      go_ret
      exact ⟨by rw [← HB.out, HN.out]; rfl, rfl⟩

theorem rAsks_any (m i : Int) (w : World) (h0 : 0 ≤ m) (h1 : m ≤ 255) (i0 : 0 ≤ i) (i1 : i ≤ 1000) :
    Calls Tryz.prog 37 #[.int .i64 m, .int .i64 i] w fun e w' => e = .returned (.bool (bitM m i.toNat)) ∧ w = w' := by
  obtain ⟨m, rfl⟩ := Int.eq_ofNat_of_zero_le h0
  obtain ⟨i, rfl⟩ := Int.eq_ofNat_of_zero_le i0
  exact rAsks_nat m i w (by omega) (by omega)



set_option maxHeartbeats 4000000 in
theorem rDigest_any (x0 x1 x2 x3 x4 x5 x6 x7 : Int) (m : Int) (w : World) (h0 : 0 ≤ m) (h1 : m ≤ 255) (hok : [x0, x1, x2, x3, x4, x5, x6, x7].all okM = true) :
    Calls Tryz.prog 20 #[.agg #[.int .i64 x0, .int .i64 x1, .int .i64 x2, .int .i64 x3, .int .i64 x4, .int .i64 x5, .int .i64 x6, .int .i64 x7], .int .i64 m] w fun e w' => e = .returned (.int .i64 (isM [x0, x1, x2, x3, x4, x5, x6, x7] m)) ∧ Below w.heap.size w w' := by
  have HK := Lib.hid (toldM_ok m hok)
  obtain ⟨B, hB⟩ : ∃ B, [x0, x1, x2, x3, x4, x5, x6, x7] = B := ⟨_, rfl⟩
  rw [hB] at HK ⊢
  have HB := Lib.hid hB
  clear hB hok
  obtain ⟨M, rfl⟩ := Int.eq_ofNat_of_zero_le h0
  go_enter Tryz.func20, Tryz.ntmps20
  go_wp2
  go_loopw [5, 6, 7] (fun o i _ wr => ∃ (k : Nat) (A : Option Addr) (c : Nat) (zs : List Int), k ≤ 8 ∧ i = .int .i64 k ∧ o = .slice A zs.length c ∧ zs.length ≤ 8 ∧ OwnI wr (w.heap.size + 1) A c zs ∧ Hid (zs = toldK B M k) ∧ Below w.heap.size w wr ∧ Box wr w.heap.size 30 #[.int .i64 x0, .int .i64 x1, .int .i64 x2, .int .i64 x3, .int .i64 x4, .int .i64 x5, .int .i64 x6, .int .i64 x7]) (fun _ i _ _ => 8 - (intOf i).toNat)
  case atStart => exact ⟨0, none, 0, [], by omega, rfl, rfl, by simp, OwnI.start _ _, Lib.hid rfl, (by repeat (first | (with_reducible exact grow_refl _) | (with_reducible assumption) | (with_reducible refine grow_alloc ?_ _) | (with_reducible refine grow_set ?_ (by first | exact Nat.le_refl _ | (simp; done) | (simp; omega) | omega) _) | (with_reducible refine grow_drewN ?_ _) | (with_reducible refine grow_drew ?_) | (with_reducible refine grow_step ?_ (by assumption)) | (with_reducible refine grow_base ?_ (by assumption)))), Box.new _ _ _⟩
  case round =>
    obtain ⟨k, A, c, zs, hk, rfl, rfl, hz8, ho, HZ, hb, BB⟩ := hrel
    have HO := Lib.hid ho
    clear ho
    by_cases hlt : k < 8
    · have hx := BB.at_ (xs := [x0, x1, x2, x3, x4, x5, x6, x7]) k hlt
      rw [HB.out] at hx
      obtain ⟨x, hxe⟩ : ∃ x, B.getD k 0 = x := ⟨_, rfl⟩
      rw [hxe] at hx
      have hs := toldK_succ B M k
      rw [hxe, ← HZ.out] at hs
      clear hxe
      have hl := toldK_len B M (k + 1)
      cases hbit : bitM M k
      · rw [hbit] at hs
        have HN : Hid (zs = toldK B M (k + 1)) := Lib.hid (by rw [hs]; simp)
        clear hs hl
        go_wp2_with (go_at_call 37; refine (rAsks_nat _ _ _ (by omega) (by omega)).mono ?_; rintro e w' ⟨rfl, rfl⟩)
        go_roundw
        case rel => exact ⟨k + 1, A, c, zs, by omega, by go_num, rfl, hz8, HO.out, HN, hb, BB⟩
        case measure => simp [intOf]; omega
      · rw [hbit] at hs
        have HN : Hid (zs ++ [x] = toldK B M (k + 1)) := Lib.hid (by rw [hs]; simp)
        clear hs hl
        go_wp2_with (first | (go_at_call 37; refine (rAsks_nat _ _ _ (by omega) (by omega)).mono ?_; rintro e w' ⟨rfl, rfl⟩) | (at_builtin; refine app_ints rfl _ _ rfl (w.heap.size + 1) A c zs rfl (HO.out.below ((Below.refl _ _).alloc (Nat.le_refl _) _)) _ 1 [x] rfl (IntsAt.new_ _ _ [x] _) (by simp; omega) (Nat.le_trans BB.lt (grow_alloc (grow_refl _) _).size) ?_; intro A2 c2 zs2 w2 hz2 ho2 hb2))
        go_roundw
        case rel => exact ⟨k + 1, A2, c2, zs2, by omega, by go_num, rfl, by rw [hz2.out, HN.out]; exact Nat.le_trans (toldK_len _ _ _) (by omega), ho2, Lib.hid (by rw [hz2.out, HN.out]), grow_base (grow_alloc hb _) (hb2.mono (by omega)), (BB.alloc_ _).belowB hb2 (by omega)⟩
        case measure => simp [intOf]; omega
    · obtain rfl : k = 8 := by omega
      go_wp2_with fail
      refine (rAll_any A c zs _ HO.out.ints (by rw [HZ.out]; exact HK.out) (by omega)).mono ?_
      rintro e w2 ⟨rfl, rfl⟩
      go_wp2_with fail
      go_ret
      exact ⟨i64_lit (by rw [HZ.out]; rfl), (by repeat (first | (with_reducible exact grow_refl _) | (with_reducible assumption) | (with_reducible refine grow_alloc ?_ _) | (with_reducible refine grow_set ?_ (by first | exact Nat.le_refl _ | (simp; done) | (simp; omega) | omega) _) | (with_reducible refine grow_drewN ?_ _) | (with_reducible refine grow_drew ?_) | (with_reducible refine grow_step ?_ (by assumption)) | (with_reducible refine grow_base ?_ (by assumption))))⟩

end Go.Proofs.YtegiffdlfpdbkaaGreatDoor
