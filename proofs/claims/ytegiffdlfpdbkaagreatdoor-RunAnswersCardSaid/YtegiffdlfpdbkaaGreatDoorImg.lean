/- image: letters, Name, Check; the reference's Letters, Name, Image. -/
import Derived.Test.YtegiffdlfpdbkaaGreatDoorRows
import Derived.Test.YtegiffdlfpdbkaaGreatDoorNum
import Derived.Test.YtegiffdlfpdbkaaGreatDoorBase
import Derived.Test.YtegiffdlfpdbkaaGreatDoorMeas
import Derived.Test.YtegiffdlfpdbkaaGreatDoorBank
import Derived.WalkKit
import Derived.WalkSpells
import Derived.WalkLawsBesides
import Derived.Lib.Hide
namespace Go.Proofs.YtegiffdlfpdbkaaGreatDoor
open Go.RowKit
set_option maxRecDepth 100000

def lowB (c : Int) : Bool := decide (97 ≤ c ∧ c ≤ 122)
def bytesI (s : ByteArray) : List Int := s.data.toList.map (fun c => (c.toNat : Int))
theorem bytesI_len (s : ByteArray) : (bytesI s).length = s.size := by simp [bytesI]
theorem bytesI_at (s : ByteArray) (k : Nat) (h : k < s.size) : (bytesI s).getD k 0 = ((s.data.toList.getD k 0).toNat : Int) := by
  have h' : k < s.data.toList.length := by simpa using h
  unfold bytesI
  rw [List.getD_eq_getElem?_getD, List.getElem?_map, List.getD_eq_getElem?_getD, List.getElem?_eq_getElem h']; rfl
def lowS (s : ByteArray) : Bool := (bytesI s).all lowB
def okName (s : ByteArray) : Bool := lowS s && decide (1 ≤ s.size ∧ s.size ≤ 8)
def imgE (n : ByteArray) (v : Int) (c : ByteArray) : Int :=
  if n.size = 0 ∨ lowS n = false ∨ lowS c = false then 3 else if 8 < n.size ∨ 8 < c.size then 4 else if v < 1 ∨ 1000 < v then 1 else 0

theorem isEmpty_of {s : ByteArray} (h : s.size = 0) : s.toList.isEmpty = true := by
  rw [ByteArray.toList_eq, List.eq_nil_of_length_eq_zero (l := s.data.toList) (by simpa using h)]; rfl
theorem isEmpty_no {s : ByteArray} (h : s.size ≠ 0) : s.toList.isEmpty = false := by
  rw [ByteArray.toList_eq]
  cases h2 : s.data.toList with
  | nil => exact absurd (by have := congrArg List.length h2; simpa using this) h
  | cons _ _ => rfl

/-- The slice that begins at A reads, in the world w, as the bytes xs. -/
def BytesAt (w : World) (A : Option Addr) (xs : List Int) : Prop :=
  ∀ i, i < xs.length → ∃ b off, A = some ⟨b, off, none⟩ ∧ b < w.heap.size ∧ w.cell? ⟨b, off + i, none⟩ = some (.int .u8 (xs.getD i 0))

theorem letters1_any (c : Int) (w : World) :
    Calls Tryz.prog 117 #[.int .u8 c] w fun e w' => e = .returned (.bool (!lowB c)) ∧ w = w' := by
  by_cases h1 : c < 97
  · have h : lowB c = false := decide_eq_false (by omega)
    rw [h]
    go_enter Tryz.func117, Tryz.ntmps117
    go_wp2
    go_ret
    exact ⟨rfl, rfl⟩
  · by_cases h2 : 122 < c
    · have h : lowB c = false := decide_eq_false (by omega)
      rw [h]
      go_enter Tryz.func117, Tryz.ntmps117
      go_wp2
      go_ret
      exact ⟨rfl, rfl⟩
    · have h : lowB c = true := decide_eq_true (by omega)
      rw [h]
      go_enter Tryz.func117, Tryz.ntmps117
      go_wp2
      go_ret
      exact ⟨rfl, rfl⟩

set_option maxHeartbeats 400000 in
theorem indexFunc_lt (A : Option Addr) (c n : Nat) (xs : List Int) (w : World) (hA : BytesAt w A xs) (hn : xs.length = n) (hbig : n ≤ 9223372036854775806) :
    Calls Tryz.prog 126 #[.slice A n c, .func (.func 117) #[] #[]] w (IndexPost (xs.any (fun x => !lowB x)) w) := by
  have HA := Lib.hid hA
  have HN := Lib.hid hn
  clear hA hn
  go_enter Tryz.func126, Tryz.ntmps126
  go_wp2
  go_loop [5, 8] (fun _ i => ∃ k : Nat, k ≤ n ∧ i = .int .i64 k ∧ Hid ((xs.take k).any (fun x => !lowB x) = false)) (fun _ i => n - (intOf i).toNat)
  case atStart => exact ⟨0, Nat.zero_le _, rfl, Lib.hid (by simp)⟩
  case round =>
    obtain ⟨k, hk, rfl, HP⟩ := hrel
    by_cases hlt : k < n
    · have hlt' : k < xs.length := by rw [HN.out]; exact hlt
      obtain ⟨b, off, rfl, _, hc⟩ := HA.out k hlt'
      obtain ⟨x, hxe⟩ : ∃ x, xs.getD k 0 = x := ⟨_, rfl⟩
      rw [hxe] at hc
      have HV := Lib.hid hxe
      clear hxe
      cases hp : (fun x => !lowB x) x
      · have HQ := Lib.hid (any_take_step (pr := fun x => !lowB x) k hlt' HP.out (HV.out ▸ hp))
        clear hlt'
        go_wp2_with fail
        refine (letters1_any x _).mono ?_
        rintro e w' ⟨rfl, rfl⟩
        go_wp2_with fail
        go_round
        case rel => exact ⟨k + 1, by omega, by go_num, HQ⟩
        case measure => simp [intOf]; omega
      · have HQ := Lib.hid (any_at (pr := fun x => !lowB x) k hlt' (HV.out ▸ hp))
        clear hlt'
        go_wp2_with fail
        refine (letters1_any x _).mono ?_
        rintro e w' ⟨rfl, rfl⟩
        go_wp2_with fail
        go_ret
        exact ⟨k, rfl, by omega, by omega, fun _ => by omega, (fun h => by rw [HQ.out] at h; cases h), rfl⟩
    · have HQ : Hid (xs.any (fun x => !lowB x) = false) := Lib.hid (by have := HP.out; rwa [List.take_of_length_le (by rw [HN.out]; omega)] at this)
      go_wp2_with fail
      go_ret
      exact ⟨-1, rfl, by omega, by omega, (fun h => by rw [HQ.out] at h; cases h), fun _ => by omega, rfl⟩

set_option maxHeartbeats 400000 in
theorem containsFunc_lt (A : Option Addr) (c n : Nat) (xs : List Int) (w : World) (hA : BytesAt w A xs) (hn : xs.length = n) (hbig : n ≤ 9223372036854775806) :
    Calls Tryz.prog 116 #[.slice A n c, .func (.func 117) #[] #[]] w fun e w' => e = .returned (.bool (xs.any (fun x => !lowB x))) ∧ w = w' := by
  have HC := Lib.hid (indexFunc_lt A c n xs w hA hn hbig)
  clear hA hn
  cases h : xs.any (fun x => !lowB x)
  · go_enter Tryz.func116, Tryz.ntmps116
    go_wp2_with fail
    refine HC.out.mono ?_
    rintro e w' ⟨i, rfl, i1, i2, i3, i4, rfl⟩
    have i5 := i4 h
    clear i3 i4 h
    go_wp2_with fail
    go_ret
    exact ⟨bool_eq (by simp; omega), rfl⟩
  · go_enter Tryz.func116, Tryz.ntmps116
    go_wp2_with fail
    refine HC.out.mono ?_
    rintro e w' ⟨i, rfl, i1, i2, i3, i4, rfl⟩
    have i5 := i3 h
    clear i3 i4 h
    go_wp2_with fail
    go_ret
    exact ⟨bool_eq (by simp; try omega), rfl⟩

theorem any_not_all (xs : List Int) (p : Int → Bool) : xs.any (fun x => !p x) = !xs.all p := by
  induction xs with
  | nil => rfl
  | cons x xs ih => simp only [List.any_cons, List.all_cons, ih, Bool.not_and]

set_option maxHeartbeats 400000 in
theorem letters_any (s : ByteArray) (w : World) (hs : s.size ≤ 9000000000000000000) :
    Calls Tryz.prog 104 #[.string s] w fun e w' => e = .returned (.bool (lowS s)) ∧ Below w.heap.size w w' := by
  obtain ⟨cap, w1, hconv, hb, hsz, hcell⟩ := conv_bytes s w
  have HA : Hid (BytesAt w1 (some ⟨w.heap.size, 0, none⟩) (bytesI s)) := Lib.hid (fun i hi => by
    rw [bytesI_len] at hi
    exact ⟨w.heap.size, 0, rfl, hsz, by rw [Nat.zero_add, hcell i hi, bytesI_at s i hi]⟩)
  have HB := Lib.hid hb
  have HL : Hid (((bytesI s).any (fun x => !lowB x)) = !lowS s) := Lib.hid (by rw [any_not_all]; rfl)
  have HN := Lib.hid (bytesI_len s)
  clear hcell hb
  go_enter Tryz.func104, Tryz.ntmps104
  go_wp2_with fail
  refine (containsFunc_lt _ _ _ (bytesI s) _ HA.out HN.out (by omega)).mono ?_
  rintro e w' ⟨rfl, rfl⟩
  rw [HL.out]
  go_wp2_with fail
  go_ret
  exact ⟨bool_eq (by simp), HB.out⟩

theorem imgE_bd (n : ByteArray) (v : Int) (c : ByteArray) : I64 (imgE n v c) := by
  unfold imgE; split; · exact ⟨by decide, by decide⟩
  split; · exact ⟨by decide, by decide⟩
  split <;> exact ⟨by decide, by decide⟩


end Go.Proofs.YtegiffdlfpdbkaaGreatDoor
