/- image.Parse over any text, in one contract. -/
import Derived.Test.YtalgnjdnanlidaaDoorRows
import Derived.Test.YtalgnjdnanlidaaDoorNum
import Derived.Test.YtalgnjdnanlidaaDoorBase
import Derived.Test.YtalgnjdnanlidaaDoorImg
import Derived.Test.YtalgnjdnanlidaaDoorImg2
import Derived.Test.YtalgnjdnanlidaaDoorNumP
import Derived.Test.YtalgnjdnanlidaaDoorParse
import Derived.Lib.SplitLaws
import Derived.Lib.AtoiAllCases
namespace Go.Proofs.YtalgnjdnanlidaaDoor
open Go.RowKit
set_option maxRecDepth 100000
set_option linter.unusedVariables false
set_option linter.unusedSimpArgs false

theorem word_size (sep : ByteArray) : ∀ (k : Nat) (s : ByteArray), ∀ x ∈ Lib.splitB sep 0 k s, x.size ≤ s.size
  | 0, s, x, h => by
    rw [Lib.splitB_zero] at h
    obtain rfl := List.mem_singleton.1 h
    exact Nat.le_refl _
  | k + 1, s, x, h => by
    unfold Lib.splitB at h
    split at h
    · obtain rfl := List.mem_singleton.1 h
      exact Nat.le_refl _
    · rcases List.mem_cons.1 h with rfl | h
      · rw [ByteArray.size_extract]; omega
      · have h2 := word_size sep k _ x h
        rw [ByteArray.size_extract] at h2
        omega
/-- What image.Parse makes of a text: the image, and the fault. -/
def parseR (s : ByteArray) : (ByteArray × Int × ByteArray) × Int :=
  if Lib.countB s spB = 2 then
    match wordsB s with
    | [a, b, c] => if b.size ≤ 4 ∧ canN b.data.toList = true then (if imgE a (valN b.data.toList : Int) c = 0 then ((a, (valN b.data.toList : Int), c), 0) else ((⟨#[]⟩, 0, ⟨#[]⟩), imgE a (valN b.data.toList : Int) c)) else ((⟨#[]⟩, 0, ⟨#[]⟩), 2)
    | _ => ((⟨#[]⟩, 0, ⟨#[]⟩), 2)
  else ((⟨#[]⟩, 0, ⟨#[]⟩), 2)
theorem bytes_loop (s : ByteArray) : ∀ (m i : Nat) (r : List UInt8), s.size - i = m → ByteArray.toList.loop s i r = r.reverse ++ s.data.toList.drop i := by
  intro m
  induction m with
  | zero =>
    intro i r h
    unfold ByteArray.toList.loop
    have hs : s.data.toList.length = s.size := by rw [Array.length_toList]; rfl
    rw [if_neg (by omega), List.drop_eq_nil_of_le (by omega), List.append_nil]
  | succ m ih =>
    intro i r h
    have hs : s.data.toList.length = s.size := by rw [Array.length_toList]; rfl
    unfold ByteArray.toList.loop
    rw [if_pos (by omega), ih (i + 1) (s.get! i :: r) (by omega), List.reverse_cons, List.append_assoc]
    congr 1
    have hi : i < s.data.toList.length := by omega
    rw [List.drop_eq_getElem_cons hi]
    have hg : s.get! i = s.data.toList[i] := by
      show s.data[i]! = _
      rw [getElem!_pos s.data i (by simpa using hi)]
      simp
    rw [hg]; rfl
theorem bytes_list (s : ByteArray) : s.toList = s.data.toList := by
  unfold ByteArray.toList
  rw [bytes_loop s s.size 0 [] (by omega)]
  rfl
theorem itoaS_beq (n : Int) (b : ByteArray) : ((itoaS n).toList == b.toList) = decide (Lib.itoa n = b.data.toList) := by
  have e1 : (itoaS n).toList = Lib.itoa n := by rw [bytes_list]; rfl
  have e2 : b.toList = b.data.toList := bytes_list b
  rw [e1, e2]
  by_cases h : Lib.itoa n = b.data.toList
  · rw [h]; simp
  · simp [h]
theorem imgParse_any (s : ByteArray) (w : World) (hs : s.size ≤ 1048576) (h : ReadT w) :
    Calls Tryd.prog 10 #[.string s] w fun e w' => e = .returned (.tuple #[.agg #[.string (parseR s).1.1, .int .i64 (parseR s).1.2.1, .string (parseR s).1.2.2], errV (parseR s).2]) ∧ Below w.heap.size w w' := by
  by_cases hc : Lib.countB s spB = 2
  rotate_left
  · have e : parseR s = ((⟨#[]⟩, 0, ⟨#[]⟩), 2) := by unfold parseR; rw [if_neg hc]
    rw [e]
    exact parse_few s w hs h hc
  obtain ⟨a, b, c, hw⟩ := words3 hc (by unfold wordsB; rw [hc]; exact Lib.splitB_all spB (by decide) 0 2 s hc)
  have hsz : ∀ x ∈ [a, b, c], x.size ≤ s.size := fun x hx => by rw [← hw] at hx; exact word_size spB _ s x hx
  have za := hsz a (by simp)
  have zb := hsz b (by simp)
  have zc := hsz c (by simp)
  have hA := fun w h => atoi_any b w (by omega) h
  have hno : ¬ (b.size ≤ 4 ∧ canN b.data.toList = true) → parseR s = ((⟨#[]⟩, 0, ⟨#[]⟩), 2) := fun hn => by unfold parseR; rw [if_pos hc, hw]; simp only; rw [if_neg hn]
  have hlen : b.data.toList.length = b.size := by rw [Array.length_toList]; rfl
  unfold atoiR at hA
  rcases ha : Lib.atoiAll b.data.toList with n | _ | _
  · rw [ha] at hA
    simp only at hA
    by_cases hn : n < 0
    · rw [hno (fun hh => by
        have := (atoi_can hh.2 (by rw [hlen]; exact hh.1)).1
        rw [ha] at this
        injection this with this
        omega)]
      exact parse_neg s a b c w hs h hc hw n hn hA
    by_cases h4 : b.size ≤ 4
    rotate_left
    · rw [hno (fun hh => h4 hh.1)]
      exact parse_long s a b c w hs h hc hw n hn (by omega) (by omega) hA
    have hiff := parse_num b.data.toList n (by rw [hlen]; exact h4)
    have hn9 : n ≤ 9223372036854775807 := by
      by_cases hi : Lib.itoa n = b.data.toList
      · have := hiff.1 ⟨ha, by omega, hi⟩
        have := (atoi_can this.1 (by rw [hlen]; exact h4)).2
        omega
      · exact (Lib.atoiAll_bounds ha).2
    by_cases hi : Lib.itoa n = b.data.toList
    · obtain ⟨hcan, hv⟩ := hiff.1 ⟨ha, by omega, hi⟩
      have hX : ((itoaS n).toList == b.toList) = true := by rw [itoaS_beq]; exact decide_eq_true hi
      by_cases h0 : imgE a n c = 0
      · have e : parseR s = ((a, n, c), 0) := by unfold parseR; rw [if_pos hc, hw]; simp only; rw [if_pos ⟨h4, hcan⟩, ← hv, if_pos h0]
        rw [e]
        exact parse_img s a b c w hs h hc hw n hn hn9 (by omega) hX h0 (by omega) (by omega) hA
      · have e : parseR s = ((⟨#[]⟩, 0, ⟨#[]⟩), imgE a n c) := by unfold parseR; rw [if_pos hc, hw]; simp only; rw [if_pos ⟨h4, hcan⟩, ← hv, if_neg h0]
        rw [e]
        exact parse_fault s a b c w hs h hc hw n hn hn9 (by omega) hX _ rfl h0 (by omega) (by omega) hA
    · rw [hno (fun hh => by
        have := hiff.2 ⟨hh.2, by
          have := (atoi_can hh.2 (by rw [hlen]; exact hh.1)).1
          rw [ha] at this
          injection this⟩
        exact hi this.2.2)]
      exact parse_other s a b c w hs h hc hw n hn hn9 (by omega) (by rw [itoaS_beq]; exact decide_eq_false hi) hA
  · rw [ha] at hA
    rw [hno (fun hh => by have := (atoi_can hh.2 (by rw [hlen]; exact hh.1)).1; rw [ha] at this; cases this)]
    exact parse_bad s a b c w hs h hc hw hA
  · rw [ha] at hA
    rw [hno (fun hh => by have := (atoi_can hh.2 (by rw [hlen]; exact hh.1)).1; rw [ha] at this; cases this)]
    exact parse_bad s a b c w hs h hc hw hA

end Go.Proofs.YtalgnjdnanlidaaDoor
