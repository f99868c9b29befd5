/- The reference's Number: a numeral of so many digits at most, without a needless nought. -/
import Derived.Test.YtegiffdlfpdbkaaGreatDoorRows
import Derived.Test.YtegiffdlfpdbkaaGreatDoorNum
import Derived.Test.YtegiffdlfpdbkaaGreatDoorBase
import Derived.Test.YtegiffdlfpdbkaaGreatDoorImg
import Derived.Test.YtegiffdlfpdbkaaGreatDoorNumP
import Derived.WalkKit
import Derived.WalkSpells
import Derived.WalkLawsBesides
import Derived.Lib.Hide
import Derived.Deep.RegionHeld3
namespace Go.Proofs.YtegiffdlfpdbkaaGreatDoor
open Go.RowKit
set_option maxRecDepth 100000
set_option linter.unusedVariables false
set_option linter.unusedSimpArgs false

/-- What Number says of the first k bytes: all digits, and their value. -/
def NumTo (s : ByteArray) (k : Nat) (n : Int) : Prop := (s.data.toList.take k).all isDig = true ∧ n = (valN (s.data.toList.take k) : Int)
theorem getD_at (s : ByteArray) (k : Nat) (h : k < s.size) : s.data.toList[k]'(by simpa using h) = s[k] := rfl
theorem NumTo.step {s : ByteArray} {k : Nat} {n : Int} (h : NumTo s k n) (hk : k < s.size) (h1 : 48 ≤ (s[k]).toNat) (h2 : (s[k]).toNat ≤ 57) : NumTo s (k + 1) (n * 10 + ((s[k]).toNat : Int) - 48) := by
  have hl : k < s.data.toList.length := by simpa using hk
  have e : s.data.toList.take (k + 1) = s.data.toList.take k ++ [s[k]] := by rw [List.take_succ_eq_append_getElem hl]; rfl
  refine ⟨by rw [e, List.all_append, h.1]; simp [isDig, h1, h2], ?_⟩
  rw [e, valN_snoc, h.2]
  omega
theorem valN_lt : ∀ (l : List UInt8), l.all isDig = true → valN l + 1 ≤ 10 ^ l.length := by
  have gen : ∀ (l : List UInt8) (a : Nat), l.all isDig = true → l.foldl (fun a c => a * 10 + (c.toNat - 48)) a + 1 ≤ (a + 1) * 10 ^ l.length := by
    intro l
    induction l with
    | nil => intro a _; simp
    | cons c r ih =>
      intro a h
      simp only [List.all_cons, Bool.and_eq_true] at h
      have hd := isDig_yes h.1
      have := ih (a * 10 + (c.toNat - 48)) h.2
      rw [List.length_cons, Nat.pow_succ, List.foldl_cons]
      have h2 : (a * 10 + (c.toNat - 48) + 1) * 10 ^ r.length ≤ ((a + 1) * 10) * 10 ^ r.length := Nat.mul_le_mul_right _ (by omega)
      have e : (a + 1) * (10 ^ r.length * 10) = ((a + 1) * 10) * 10 ^ r.length := by rw [Nat.mul_comm (10 ^ r.length) 10, Nat.mul_assoc]
      omega
  intro l h
  have := gen l 0 h
  rw [Nat.zero_add, Nat.one_mul] at this
  exact this
theorem NumTo.lt {s : ByteArray} {k : Nat} {n : Int} (h : NumTo s k n) (hk : k ≤ 7) : 0 ≤ n ∧ n ≤ 9999999 := by
  obtain ⟨h1, rfl⟩ := h
  have := valN_lt _ h1
  have hl : (s.data.toList.take k).length ≤ 7 := by rw [List.length_take]; omega
  have : 10 ^ (s.data.toList.take k).length ≤ 10 ^ 7 := Nat.pow_le_pow_right (by decide) hl
  omega
/-- What Number answers of at most so many digits. -/
def numK (m : Nat) (s : ByteArray) : Int × Bool := if s.size ≤ m ∧ canN s.data.toList = true then ((valN s.data.toList : Int), true) else (0, false)
theorem numK_no {m : Nat} {s : ByteArray} (h : ¬ (s.size ≤ m ∧ canN s.data.toList = true)) : numK m s = (0, false) := by unfold numK; rw [if_neg h]
theorem numK_yes {m : Nat} {s : ByteArray} (h : s.size ≤ m ∧ canN s.data.toList = true) : numK m s = ((valN s.data.toList : Int), true) := by unfold numK; rw [if_pos h]
abbrev numR (s : ByteArray) : Int × Bool := numK 4 s
theorem numR_no {s : ByteArray} (h : ¬ (s.size ≤ 4 ∧ canN s.data.toList = true)) : numR s = (0, false) := numK_no h
theorem numR_yes {s : ByteArray} (h : s.size ≤ 4 ∧ canN s.data.toList = true) : numR s = ((valN s.data.toList : Int), true) := numK_yes h

set_option maxHeartbeats 2000000 in
theorem rNumber_k (m : Nat) (hm : m ≤ 7) (s : ByteArray) (w : World) (hs : s.size ≤ 1048576) :
    Calls Tryz.prog 16 #[.string s, .int .i64 (m : Int)] w fun e w' => e = .returned (.tuple #[.int .i64 (numK m s).1, .bool (numK m s).2]) ∧ w = w' := by
  have hlen : s.data.toList.length = s.size := by simp
  by_cases h0 : s.size = 0
  · have HN : Hid (numK m s = (0, false)) := Lib.hid (numK_no (fun h => (canN_parts h.2).1 (List.eq_nil_of_length_eq_zero (by omega))))
    have f1 := isEmpty_of h0
    clear h0 hlen
    go_enter Tryz.func16, Tryz.ntmps16
    go_wp2_with fail
    go_ret2
    exact ⟨by rw [HN.out]; rfl, rfl⟩
  have t0 : 0 < s.size := by omega
  by_cases h4 : m < s.size
  · have HN : Hid (numK m s = (0, false)) := Lib.hid (numK_no (fun h => by omega))
    have t : (m : Int) < (s.size : Int) := by omega
    have f1 := isEmpty_no h0
    clear hlen
    go_enter Tryz.func16, Tryz.ntmps16
    go_wp2_with fail
    go_ret2
    exact ⟨by rw [HN.out]; rfl, rfl⟩
  by_cases hz : ((s[0]'t0).toNat : Int) = 48 ∧ 1 < s.size
  · have HN : Hid (numK m s = (0, false)) := Lib.hid (numK_no (fun h => by
      have h3 := (canN_parts h.2).2.2
      rcases h3 with h3 | h3
      · rw [hlen] at h3; omega
      · have hl : 0 < s.data.toList.length := by omega
        have e : s.data.toList.headD 0 = s[0]'t0 := by
          rw [List.headD_eq_head?_getD, List.head?_eq_getElem?, List.getElem?_eq_getElem hl]; rfl
        rw [e] at h3
        omega))
    have f1 := isEmpty_no h0
    have t1 : ¬ (m : Int) < (s.size : Int) := by omega
    obtain ⟨z1, z2⟩ := hz
    have t2 : (1 : Int) < (s.size : Int) := by omega
    clear hlen h0 h4 z2
    go_enter Tryz.func16, Tryz.ntmps16
    go_wp2_with fail
    go_ret2
    exact ⟨by rw [HN.out]; rfl, rfl⟩
  · have HF : Hid (s.data.toList.all isDig = true → canN s.data.toList = true) := Lib.hid (fun h => canN_mk (fun e => by rw [e] at hlen; exact h0 hlen.symm) h (by
      by_cases h1 : 1 < s.size
      · right
        have hl : 0 < s.data.toList.length := by omega
        have e : s.data.toList.headD 0 = s[0]'t0 := by
          rw [List.headD_eq_head?_getD, List.head?_eq_getElem?, List.getElem?_eq_getElem hl]; rfl
        rw [e]
        intro e48
        exact hz ⟨by omega, h1⟩
      · left; omega))
    have f1 := isEmpty_no h0
    have t1 : ¬ (m : Int) < (s.size : Int) := by omega
    have HL := Lib.hid hlen
    have h44 : s.size ≤ m := by omega
    obtain ⟨Z, hZ⟩ : ∃ Z, ((s[0]'t0).toNat : Int) = Z := ⟨_, rfl⟩
    by_cases hz1 : Z = 48
    all_goals
      first
      | (have t2 : ¬ (1 : Int) < (s.size : Int) := fun h => hz ⟨by omega, by omega⟩)
      | skip
      clear hlen h0 h4 hz
      go_enter Tryz.func16, Tryz.ntmps16
      go_wp2_with fail
      go_loop [6, 7] (fun n i => ∃ (k : Nat) (N : Int), k ≤ s.size ∧ k ≤ m ∧ i = .int .i64 k ∧ n = .int .i64 N ∧ Hid (NumTo s k N)) (fun _ i => s.size - (intOf i).toNat)
      case atStart => exact ⟨0, 0, Nat.zero_le _, by omega, rfl, rfl, Lib.hid ⟨rfl, rfl⟩⟩
      case round =>
        obtain ⟨k, N, hk, hk4, rfl, rfl, HP⟩ := hrel
        by_cases hlt : k < s.size
        · by_cases h1 : ((s[k]).toNat : Int) < 48
          · have HN : Hid (numK m s = (0, false)) := Lib.hid (numK_no (fun h => by
              have := List.all_eq_true.1 (canN_parts h.2).2.1 (s[k]) (by rw [← getD_at s k hlt]; exact List.getElem_mem _)
              have := isDig_yes this
              omega))
            go_wp2_with fail
            go_ret2
            exact ⟨by rw [HN.out]; rfl, rfl⟩
          · by_cases h2 : 57 < ((s[k]).toNat : Int)
            · have HN : Hid (numK m s = (0, false)) := Lib.hid (numK_no (fun h => by
                have := List.all_eq_true.1 (canN_parts h.2).2.1 (s[k]) (by rw [← getD_at s k hlt]; exact List.getElem_mem _)
                have := isDig_yes this
                omega))
              go_wp2_with fail
              go_ret2
              exact ⟨by rw [HN.out]; rfl, rfl⟩
            · have HS : Hid (NumTo s (k + 1) (N * 10 + ((s[k]).toNat : Int) - 48)) := Lib.hid (HP.out.step hlt (by omega) (by omega))
              obtain ⟨b1, b2⟩ := HP.out.lt (by omega)
              go_wp2_with fail
              go_round
              case rel => exact ⟨k + 1, _, by omega, by omega, by go_num, rfl, HS⟩
              case measure => simp [intOf]; omega
        · have HN : Hid (numK m s = (N, true)) := Lib.hid (by
            obtain ⟨p1, p2⟩ := HP.out
            rw [List.take_of_length_le (by have := HL.out; omega)] at p1 p2
            rw [numK_yes ⟨h44, HF.out p1⟩, p2])
          go_wp2_with fail
          go_ret2
          exact ⟨by rw [HN.out]; rfl, rfl⟩

theorem rNumber_any (s : ByteArray) (w : World) (hs : s.size ≤ 1048576) :
    Calls Tryz.prog 16 #[.string s, .int .i64 4] w fun e w' => e = .returned (.tuple #[.int .i64 (numR s).1, .bool (numR s).2]) ∧ w = w' := rNumber_k 4 (by decide) s w hs

end Go.Proofs.YtegiffdlfpdbkaaGreatDoor
