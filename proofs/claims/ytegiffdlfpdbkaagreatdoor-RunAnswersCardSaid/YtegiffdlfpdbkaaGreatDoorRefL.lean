/- The reference's Digits and Line. -/
import Derived.Test.YtegiffdlfpdbkaaGreatDoorImg2
import Derived.Test.YtegiffdlfpdbkaaGreatDoorRefI
import Derived.WalkKit
import Derived.WalkSpells
import Derived.WalkLawsBesides
import Derived.Lib.Hide
namespace Go.Proofs.YtegiffdlfpdbkaaGreatDoor
open Go.RowKit
set_option maxRecDepth 100000
set_option linter.unusedSimpArgs false

abbrev tenS : ByteArray := { data := #[48, 49, 50, 51, 52, 53, 54, 55, 56, 57] }
theorem tenS_at : ∀ n, n < 10 → tenS.extract n (n + 1) = ⟨#[UInt8.ofNat (48 + n)]⟩ := by decide
def digS (n : Nat) : ByteArray := ⟨(Lib.decDigits n).toArray⟩
theorem digS_low {n : Nat} (h : n < 10) : digS n = tenS.extract n (n + 1) := by
  rw [tenS_at n h]
  unfold digS
  rw [Lib.decDigits, dif_pos h]
theorem digS_high {n : Nat} (h : ¬ n < 10) : digS n = digS (n / 10) ++ tenS.extract (n % 10) (n % 10 + 1) := by
  rw [tenS_at (n % 10) (Nat.mod_lt _ (by decide))]
  unfold digS
  rw [Lib.decDigits, dif_neg h]
  apply ByteArray.ext
  rw [ByteArray.data_append]
  simp
theorem digS_itoa (n : Nat) : digS n = itoaS (n : Int) := by
  unfold digS itoaS Lib.itoa
  rw [if_neg (by omega)]; rfl

theorem dec_len : ∀ (k n : Nat), n < 10 ^ (k + 1) → (Lib.decDigits n).length ≤ k + 1
  | 0, n, h => by
    have h' : n < 10 := by simpa using h
    unfold Lib.decDigits
    rw [dif_pos h']; simp
  | k + 1, n, h => by
    unfold Lib.decDigits
    split
    · simp
    · have h2 : n / 10 < 10 ^ (k + 1) := by rw [Nat.pow_succ] at h; omega
      have := dec_len k (n / 10) h2
      rw [List.length_append]
      simp
      omega
theorem itoa_len8 {v : Int} (h0 : 0 ≤ v) (h1 : v ≤ 99999999) : (itoaS v).size ≤ 8 := by
  obtain ⟨n, rfl⟩ := Int.eq_ofNat_of_zero_le h0
  rw [← digS_itoa]
  unfold digS
  show (Lib.decDigits n).toArray.size ≤ 8
  rw [List.size_toArray]
  exact dec_len 7 n (by omega)

set_option maxHeartbeats 1000000 in
theorem rDigits_nat : ∀ (n : Nat), n ≤ 99999999 → ∀ w : World,
    Calls Tryz.prog 9 #[.int .i64 n] w fun e w' => e = .returned (.string (digS n)) ∧ w = w' := by
  intro n
  induction n using Nat.strongRecOn with
  | _ n ih =>
    intro hn w
    by_cases h0 : n < 10
    · have HE := Lib.hid (digS_low h0)
      have g0 : (n : Int) < 10 := by omega
      clear ih
      go_enter Tryz.func9, Tryz.ntmps9
      go_wp2_with fail
      go_ret
      exact ⟨by rw [HE.out]; rfl, rfl⟩
    · have g0 : ¬ ((n : Int) < 10) := by omega
      have HI := Lib.hid (ih (n / 10) (by omega) (by omega))
      have HE := Lib.hid (digS_high h0)
      have hz : (digS (n / 10)).size ≤ 8 := by rw [digS_itoa]; exact itoa_len8 (by omega) (by omega)
      obtain ⟨k, hk⟩ : ∃ k, n % 10 = k := ⟨_, rfl⟩
      have hk9 : k < 10 := by omega
      have HM := Lib.hid (show (n : Int) % 10 = (k : Int) by omega)
      obtain ⟨D, hD⟩ : ∃ D, digS (n / 10) = D := ⟨_, rfl⟩
      rw [hD] at hz HE
      rw [hk] at HE
      have HD := Lib.hid hD
      have f1 : ∀ w, (Op.stringOp .add D (tenS.extract k (k + 1))).run Tryz.prog w = .ok (.string (D ++ tenS.extract k (k + 1))) w := fun w => run_string_add_sum _ _ _ (by
        have : (tenS.extract k (k + 1)).size ≤ 10 := by rw [ByteArray.size_extract]; exact Nat.le_trans (Nat.sub_le _ _) (Nat.min_le_right _ _)
        omega)
      have HF := Lib.hid f1
      have HK := Lib.hid hk9
      clear ih hk hD h0 f1 hk9 hz
      go_enter Tryz.func9, Tryz.ntmps9
      go_wp2_with fail
      rw [show ((n : Int) / 10) = ((n / 10 : Nat) : Int) from by omega]
      refine (HI.out _).mono ?_
      rintro e w' ⟨rfl, rfl⟩
      rw [HD.out, HM.out]
      have f1 := HF.out
      have hk9 : k < 10 := HK.out
      clear HI
      go_wp2_with fail
      go_ret
      exact ⟨by rw [HE.out]; rfl, rfl⟩

theorem rDigits_any (v : Int) (w : World) (h0 : 0 ≤ v) (h1 : v ≤ 99999999) :
    Calls Tryz.prog 9 #[.int .i64 v] w fun e w' => e = .returned (.string (itoaS v)) ∧ w = w' := by
  obtain ⟨n, rfl⟩ := Int.eq_ofNat_of_zero_le h0
  have := rDigits_nat n (by omega) w
  rw [digS_itoa] at this
  exact this


end Go.Proofs.YtegiffdlfpdbkaaGreatDoor
