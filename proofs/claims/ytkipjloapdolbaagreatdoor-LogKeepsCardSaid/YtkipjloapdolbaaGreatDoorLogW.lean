/- What is whole among the bytes that are left of a log, in plain words. -/
import Derived.Test.YtkipjloapdolbaaGreatDoorRows
import Derived.Test.YtkipjloapdolbaaGreatDoorNum
import Derived.Test.YtkipjloapdolbaaGreatDoorBase
import Derived.Test.YtkipjloapdolbaaGreatDoorImg
import Derived.Test.YtkipjloapdolbaaGreatDoorCntP
import Derived.Test.YtkipjloapdolbaaGreatDoorLines
import Derived.Test.YtkipjloapdolbaaGreatDoorLogP
import Derived.Test.YtkipjloapdolbaaGreatDoorLogA
import Derived.Test.YtkipjloapdolbaaGreatDoorLogR
import Derived.Lib.LastIndexLaws
import Derived.Lib.LastIndexByte
namespace Go.Proofs.YtkipjloapdolbaaGreatDoor
open Go.RowKit
set_option maxRecDepth 100000
set_option linter.unusedVariables false
set_option linter.unusedSimpArgs false

def flatN (rs : List Rec) : Nat := (flatB (recsB rs)).length
theorem flatN_cons (r : Rec) (rs : List Rec) : flatN (r :: rs) = (recB r).size + flatN rs := by
  unfold flatN
  rw [show recsB (r :: rs) = recB r :: recsB rs from rfl, flatB_cons, List.length_append, size_list]
theorem flatN_app (rs qs : List Rec) : flatN (rs ++ qs) = flatN rs + flatN qs := by
  unfold flatN
  rw [show recsB (rs ++ qs) = recsB rs ++ recsB qs from List.map_append, flatB_app, List.length_append]
theorem recB_pos (r : Rec) : 2 ≤ (recB r).size := by
  unfold recB
  rw [recS_size]; omega
/-- How many records are whole among the first h bytes. -/
def wholeN : List Rec → Nat → Nat
  | [], _ => 0
  | r :: rs, h => if (recB r).size ≤ h then wholeN rs (h - (recB r).size) + 1 else 0
theorem wholeN_le : ∀ (rs : List Rec) (h : Nat), wholeN rs h ≤ rs.length
  | [], _ => Nat.le_refl _
  | r :: rs, h => by
    unfold wholeN
    split
    · have := wholeN_le rs (h - (recB r).size)
      rw [List.length_cons]; omega
    · omega
/-- Just those records end ahead of h. -/
theorem wholeN_iff : ∀ (rs : List Rec) (h i : Nat), i ≤ rs.length → (flatN (rs.take i) ≤ h ↔ i ≤ wholeN rs h)
  | [], h, i, hi => by
    have : i = 0 := by simpa using hi
    subst this
    exact ⟨fun _ => Nat.zero_le _, fun _ => Nat.zero_le _⟩
  | r :: rs, h, 0, _ => ⟨fun _ => Nat.zero_le _, fun _ => Nat.zero_le _⟩
  | r :: rs, h, i + 1, hi => by
    rw [List.take_succ_cons, flatN_cons]
    unfold wholeN
    by_cases hr : (recB r).size ≤ h
    · rw [if_pos hr]
      have ih := wholeN_iff rs (h - (recB r).size) i (by simpa using hi)
      constructor
      · intro hh; have := ih.1 (by omega); omega
      · intro hh; have := ih.2 (by omega); omega
    · rw [if_neg hr]
      constructor
      · intro hh; omega
      · intro hh; omega
theorem wholeN_flat (rs : List Rec) (h : Nat) : flatN (rs.take (wholeN rs h)) ≤ h := (wholeN_iff rs h _ (wholeN_le rs h)).2 (Nat.le_refl _)
theorem wholeN_all (rs : List Rec) (h : Nat) (hh : flatN rs ≤ h) : wholeN rs h = rs.length := by
  have h1 := (wholeN_iff rs h rs.length (Nat.le_refl _)).1 (by rw [List.take_length]; exact hh)
  have h2 := wholeN_le rs h
  omega
/-- The first h bytes: whole records, and a rest without an end of line. -/
theorem take_whole : ∀ (rs : List Rec) (half : List UInt8) (h : Nat), (∀ x ∈ recsB rs, LineIs x) → (∀ c ∈ half, c ≠ 10) → ∃ y, (flatB (recsB rs) ++ half).take h = flatB (recsB (rs.take (wholeN rs h))) ++ y ∧ ∀ c ∈ y, c ≠ 10
  | [], half, h, _, h2 => ⟨half.take h, rfl, fun c hc => h2 c (List.mem_of_mem_take hc)⟩
  | r :: rs, half, h, h1, h2 => by
    have e : recsB (r :: rs) = recB r :: recsB rs := rfl
    obtain ⟨y, hy, hn⟩ := h1 (recB r) (by rw [e]; exact List.mem_cons_self)
    have hl : (recB r).size = y.length + 1 := by rw [← size_list, hy]; simp
    rw [e, flatB_cons, List.append_assoc]
    unfold wholeN
    by_cases hr : (recB r).size ≤ h
    · rw [if_pos hr]
      obtain ⟨z, hz, hzn⟩ := take_whole rs half (h - (recB r).size) (fun x hx => h1 x (by rw [e]; exact List.mem_cons_of_mem _ hx)) h2
      refine ⟨z, ?_, hzn⟩
      rw [List.take_succ_cons, show recsB (r :: rs.take (wholeN rs (h - (recB r).size))) = recB r :: recsB (rs.take (wholeN rs (h - (recB r).size))) from rfl, flatB_cons, List.append_assoc, ← hz, List.take_append, size_list, List.take_of_length_le (by rw [size_list]; exact hr)]
    · rw [if_neg hr]
      refine ⟨y.take h, ?_, fun c hc => hn c (List.mem_of_mem_take hc)⟩
      rw [List.take_append_of_le_length (by rw [size_list]; omega), hy, List.take_append_of_le_length (by omega)]
      rfl
/-- The last end of line stands at the end of the whole records. -/
theorem last_nl (s : ByteArray) (A y : List UInt8) (hs : s.data.toList = A ++ y) (hy : ∀ c ∈ y, c ≠ 10) (hA : A = [] ∨ ∃ B, A = B ++ [10]) : Lib.lastIndexByte s 10 + 1 = (A.length : Int) := by
  have hsz : s.size = A.length + y.length := by rw [← size_list, hs, List.length_append]
  have hget : ∀ j, s.data[j]! = (A ++ y)[j]! := fun j => by rw [← hs]; exact Array.getElem!_toList.symm
  have step : ∀ m, m ≤ y.length → Lib.lastIdx s 10 (A.length + m) = Lib.lastIdx s 10 A.length := by
    intro m
    induction m with
    | zero => intro _; rfl
    | succ m ih =>
      intro hm
      rw [← Nat.add_assoc, Lib.lastIdx_miss s 10 (A.length + m) ?_, ih (by omega)]
      rw [hget]
      have e : (A ++ y)[A.length + m]! = y[m]'(by omega) := by
        rw [List.getElem!_eq_getElem?_getD, List.getElem?_append_right (by omega), Nat.add_sub_cancel_left, List.getElem?_eq_getElem (by omega)]
        rfl
      rw [e]
      have := hy (y[m]'(by omega)) (List.getElem_mem _)
      intro h
      exact this (UInt8.toNat_inj.1 (by rw [show (10 : UInt8).toNat = 10 from rfl]; omega))
  unfold Lib.lastIndexByte
  rw [hsz, step y.length (Nat.le_refl _)]
  rcases hA with rfl | ⟨B, rfl⟩
  · rfl
  · have e0 : (B ++ [10] : List UInt8).length = B.length + 1 := by simp
    rw [e0, Lib.lastIdx_hit s 10 B.length ?_]
    · rfl
    · rw [hget]
      have e : (B ++ [10] ++ y)[B.length]! = 10 := by
        rw [List.getElem!_eq_getElem?_getD, List.append_assoc, List.getElem?_append_right (by omega), Nat.sub_self]
        rfl
      rw [e]
      rfl
theorem flat_end {rs : List Rec} (h : ∀ x ∈ recsB rs, LineIs x) : flatB (recsB rs) = [] ∨ ∃ B, flatB (recsB rs) = B ++ [10] := by
  rcases List.eq_nil_or_concat rs with rfl | ⟨q, r, rfl⟩
  · exact Or.inl rfl
  · right
    have e : recsB (q.concat r) = recsB q ++ [recB r] := by rw [List.concat_eq_append]; exact List.map_append
    obtain ⟨y, hy, _⟩ := h (recB r) (by rw [e]; simp)
    refine ⟨flatB (recsB q) ++ y, ?_⟩
    rw [e, flatB_app, show flatB [recB r] = (recB r).data.toList by rw [flatB_cons]; simp [flatB], hy, List.append_assoc]
/-- A crash that leaves h bytes: the records that are whole. -/
theorem crash_cut {L : Lg} (hO : LgOK L) (h : Nat) :
    Lib.lastIndexByte ((bytesB L.recs L.half).extract 0 h) 10 + 1 = (flatN (L.recs.take (wholeN L.recs h)) : Int) ∧
    flatN (L.recs.take (wholeN L.recs h)) ≤ ((bytesB L.recs L.half).extract 0 h).size ∧
    ((bytesB L.recs L.half).extract 0 h).extract 0 (flatN (L.recs.take (wholeN L.recs h))) = bytesB (L.recs.take (wholeN L.recs h)) [] := by
  have hl := recsB_line hO.recs
  have hl2 := recsB_line (hO.recs.take (wholeN L.recs h))
  obtain ⟨y, hy, hn⟩ := take_whole L.recs L.half h hl hO.noNl
  have hd : ((bytesB L.recs L.half).extract 0 h).data.toList = flatB (recsB (L.recs.take (wholeN L.recs h))) ++ y := by
    rw [Lib.extract_from_zero, bytesB_data, hy]
  refine ⟨last_nl _ _ _ hd hn (flat_end hl2), ?_, ?_⟩
  · rw [← size_list, hd, List.length_append]
    exact Nat.le_add_right _ _
  · refine bytes_ext ?_
    rw [Lib.extract_from_zero, hd, bytesB_data, List.append_nil]
    exact List.take_left
/-- What a crash leaves. -/
def highOf (L : Lg) (keep : Int) : Int := L.safe + max 0 (min keep (((bytesB L.recs L.half).size : Int) - L.safe))
def crashOut (L : Lg) (keep : Int) : Lg := { recs := L.recs.take (wholeN L.recs (highOf L keep).toNat), half := [], safe := flatN (L.recs.take (wholeN L.recs (highOf L keep).toNat)), left := -1, st := false }
theorem LgOK.crash {L : Lg} (h : LgOK L) (keep : Int) : LgOK (crashOut L keep) := by
  refine ⟨h.recs.take _, ?_, (by show ([] : List UInt8).length ≤ 14; simp), (fun c hc => by cases hc), fun _ => rfl, ?_, Int.le_refl _, Int.le_refl _, ?_⟩
  · have := h.many
    show (L.recs.take _).length ≤ 30
    rw [List.length_take]; omega
  · show (0 : Int) ≤ (flatN _ : Int)
    omega
  · show (-1 : Int) ≤ 9223372036854775807
    omega
theorem high_bd {L : Lg} (h : LgOK L) (keep : Int) : 0 ≤ highOf L keep ∧ highOf L keep ≤ ((bytesB L.recs L.half).size : Int) ∧ L.safe ≤ ((bytesB L.recs L.half).size : Int) := by
  have h0 := h.safe0
  have h1 := h.safe1
  have h2 : (flatB (recsB L.recs)).length ≤ (bytesB L.recs L.half).size := by rw [← size_list, bytesB_data, List.length_append]; omega
  unfold highOf
  omega

end Go.Proofs.YtkipjloapdolbaaGreatDoor
