/- The words of a text: cut at each blank, and joined again; what a line is read as, plainly. -/
import Derived.Test.YtalgnjdnanlidaaDoorRows
import Derived.Test.YtalgnjdnanlidaaDoorImg
import Derived.Test.YtalgnjdnanlidaaDoorImg2
import Derived.Test.YtalgnjdnanlidaaDoorNumP
import Derived.Test.YtalgnjdnanlidaaDoorParse
import Derived.Test.YtalgnjdnanlidaaDoorParse2
import Derived.Test.YtalgnjdnanlidaaDoorNewer
import Derived.Lib.SplitLaws
namespace Go.Proofs.YtalgnjdnanlidaaDoor
set_option maxRecDepth 100000
set_option linter.unusedVariables false
set_option linter.unusedSimpArgs false

theorem index_sp : ∀ (a r : List UInt8), (∀ x ∈ a, x ≠ 32) → Lib.index (a ++ 32 :: r) [32] = (a.length : Int)
  | [], r, _ => by rw [List.nil_append, Lib.index]; simp [List.isPrefixOf]
  | x :: a, r, h => by
    have hx : x ≠ 32 := h x (by simp)
    have ih := index_sp a r (fun y hy => h y (by simp [hy]))
    have hp : ([32] : List UInt8).isPrefixOf (x :: (a ++ 32 :: r)) = false := by simp [List.isPrefixOf, Ne.symm hx]
    rw [List.cons_append, Lib.index, hp, ih, if_neg (by decide), if_neg (fun e => by have := beq_iff_eq.1 e; omega), List.length_cons]
    omega
theorem index_no : ∀ (a : List UInt8), (∀ x ∈ a, x ≠ 32) → Lib.index a [32] = -1
  | [], _ => by rw [Lib.index]; rfl
  | x :: a, h => by
    have hx : x ≠ 32 := h x (by simp)
    have ih := index_no a (fun y hy => h y (by simp [hy]))
    have hp : ([32] : List UInt8).isPrefixOf (x :: a) = false := by simp [List.isPrefixOf, Ne.symm hx]
    rw [Lib.index, hp, ih, if_neg (by decide)]; rfl
theorem splitK_step (k : Nat) (a r : List UInt8) (ha : ∀ x ∈ a, x ≠ 32) : Lib.splitK [32] 0 (k + 1) (a ++ 32 :: r) = a :: Lib.splitK [32] 0 k r := by
  have hi := index_sp a r ha
  rw [Lib.splitK, hi, if_neg (fun e => by have := beq_iff_eq.1 e; omega)]
  have e1 : ((a.length : Int).toNat + 0) = a.length := by omega
  have e2 : ((a.length : Int).toNat + [(32 : UInt8)].length) = a.length + 1 := by simp
  rw [e1, e2, List.take_left]
  congr 2
  rw [show a.length + 1 = a.length + 1 from rfl, List.drop_append]
  simp
theorem split_line (a b c : List UInt8) (ha : ∀ x ∈ a, x ≠ 32) (hb : ∀ x ∈ b, x ≠ 32) : Lib.splitK [32] 0 2 (a ++ 32 :: (b ++ 32 :: c)) = [a, b, c] := by
  rw [splitK_step 1 a _ ha, splitK_step 0 b _ hb]; rfl
theorem index_join : ∀ (l : List UInt8) (i : Nat), Lib.index l [32] = (i : Int) → l = l.take i ++ 32 :: l.drop (i + 1)
  | [], i, h => by
    rw [Lib.index] at h
    have : (-1 : Int) = (i : Int) := h
    omega
  | x :: l, i, h => by
    by_cases hx : x = 32
    · subst hx
      rw [Lib.index] at h
      have hp : ([32] : List UInt8).isPrefixOf (32 :: l) = true := by simp [List.isPrefixOf]
      rw [hp, if_pos rfl] at h
      obtain rfl : i = 0 := by omega
      simp
    · have hp : ([32] : List UInt8).isPrefixOf (x :: l) = false := by simp [List.isPrefixOf, Ne.symm hx]
      rw [Lib.index, hp, if_neg (by decide)] at h
      by_cases hm : Lib.index l [32] = -1
      · rw [hm] at h
        have : (-1 : Int) = (i : Int) := h
        omega
      · rw [if_neg (fun e => hm (beq_iff_eq.1 e))] at h
        have hge := Lib.index_ge l [32]
        obtain ⟨j, rfl⟩ : ∃ j, i = j + 1 := ⟨i - 1, by omega⟩
        have ih := index_join l j (by omega)
        rw [List.take_succ_cons, List.drop_succ_cons, List.cons_append, ← ih]
theorem split_join (k : Nat) (l a : List UInt8) (r : List (List UInt8)) (hr : r ≠ []) (h : Lib.splitK [32] 0 (k + 1) l = a :: r) : ∃ m, l = a ++ 32 :: m ∧ Lib.splitK [32] 0 k m = r := by
  rw [Lib.splitK] at h
  by_cases hm : Lib.index l [32] = -1
  · rw [if_pos (beq_iff_eq.2 hm)] at h
    injection h with _ h
    exact absurd h.symm hr
  · rw [if_neg (fun e => hm (beq_iff_eq.1 e))] at h
    have hge := Lib.index_ge l [32]
    obtain ⟨i, hi⟩ : ∃ i : Nat, Lib.index l [32] = (i : Int) := ⟨(Lib.index l [32]).toNat, by omega⟩
    have hj := index_join l i hi
    rw [hi] at h
    injection h with h1 h2
    have e1 : ((i : Int).toNat + 0) = i := by omega
    have e2 : ((i : Int).toNat + [(32 : UInt8)].length) = i + 1 := by simp
    rw [e1] at h1
    rw [e2] at h2
    exact ⟨l.drop (i + 1), by rw [← h1]; exact hj, h2⟩
theorem split3_join (l a b c : List UInt8) (h : Lib.splitK [32] 0 2 l = [a, b, c]) : l = a ++ 32 :: (b ++ 32 :: c) := by
  obtain ⟨m, e1, h1⟩ := split_join 1 l a [b, c] (by simp) h
  obtain ⟨m2, e2, h2⟩ := split_join 0 m b [c] (by simp) h1
  have e3 : m2 = c := by
    have h3 : [m2] = [c] := h2
    injection h3
  rw [e1, e2, e3]

theorem bytes_ext {a b : ByteArray} (h : a.data.toList = b.data.toList) : a = b := by
  rcases a with ⟨⟨a⟩⟩
  rcases b with ⟨⟨b⟩⟩
  have h' : a = b := h
  rw [h']
theorem low_no32 {s : ByteArray} (h : lowS s = true) : ∀ x ∈ s.data.toList, x ≠ 32 := fun x hx e => by
  subst e
  unfold lowS bytesI at h
  have := List.all_eq_true.1 h _ (List.mem_map.2 ⟨_, hx, rfl⟩)
  revert this
  decide
theorem can_no32 {l : List UInt8} (h : canN l = true) : ∀ x ∈ l, x ≠ 32 := fun x hx e => by
  subst e
  have := List.all_eq_true.1 (canN_parts h).2.1 _ hx
  revert this
  decide
theorem lineS_data (n : ByteArray) (v : Int) (c : ByteArray) : (lineS n v c).data.toList = n.data.toList ++ 32 :: ((itoaS v).data.toList ++ 32 :: c.data.toList) := by
  unfold lineS
  simp
theorem itoaS_data (v : Int) : (itoaS v).data.toList = Lib.itoa v := rfl
theorem count_no32 {l : List UInt8} (h : ∀ x ∈ l, x ≠ 32) : l.count 32 = 0 := List.count_eq_zero.2 (fun hm => h 32 hm rfl)
theorem words_line {n b c : ByteArray} (s : ByteArray) (hs : s.data.toList = n.data.toList ++ 32 :: (b.data.toList ++ 32 :: c.data.toList)) (hn : ∀ x ∈ n.data.toList, x ≠ 32) (hb : ∀ x ∈ b.data.toList, x ≠ 32) (hc : ∀ x ∈ c.data.toList, x ≠ 32) :
    Lib.countB s spB = 2 ∧ wordsB s = [n, b, c] := by
  have h1 : Lib.countB s spB = 2 := by
    show Lib.count s.data.toList [32] = 2
    rw [Lib.count_one, hs, List.count_append, List.count_cons, List.count_append, List.count_cons, count_no32 hn, count_no32 hb, count_no32 hc]
    rfl
  refine ⟨h1, ?_⟩
  have h2 : (wordsB s).map (·.data.toList) = [n, b, c].map (·.data.toList) := by
    unfold wordsB
    rw [h1, Lib.splitB_data, hs]
    exact split_line _ _ _ hn hb
  rcases hq : wordsB s with _ | ⟨x, _ | ⟨y, _ | ⟨z, _ | ⟨u, r⟩⟩⟩⟩
  all_goals (rw [hq] at h2; simp at h2)
  obtain ⟨e1, e2, e3⟩ := h2
  have f1 : x = n := bytes_ext (by rw [e1])
  have f2 : y = b := bytes_ext (by rw [e2])
  have f3 : z = c := bytes_ext (by rw [e3])
  rw [f1, f2, f3]
/-- An image's line is read as it was. -/
theorem parse_line {n c : ByteArray} {v : Int} (h : imgE n v c = 0) : parseR (lineS n v c) = ((n, v, c), 0) := by
  obtain ⟨_, hn, hc, _, _, h3, h4⟩ := imgE_ok h
  obtain ⟨m, rfl⟩ := Int.eq_ofNat_of_zero_le (show 0 ≤ v by omega)
  have hd : (itoaS (m : Int)).data.toList = Lib.decDigits m := by rw [itoaS_data, Lib.itoa_nonneg]
  obtain ⟨p1, p2⟩ := can_digits m
  have hl := itoa_len (v := (m : Int)) (by omega) h4
  obtain ⟨w1, w2⟩ := words_line (n := n) (b := itoaS (m : Int)) (c := c) (lineS n (m : Int) c) (lineS_data _ _ _) (low_no32 hn) (by rw [hd]; exact can_no32 p1) (low_no32 hc)
  unfold parseR
  rw [if_pos w1, w2]
  simp only
  rw [hd, p2, if_pos ⟨hl, p1⟩, if_pos h]
/-- What was read prints as the text that it was. -/
theorem line_parse {s : ByteArray} (h : (parseR s).2 = 0) : imgE (parseR s).1.1 (parseR s).1.2.1 (parseR s).1.2.2 = 0 ∧ lineS (parseR s).1.1 (parseR s).1.2.1 (parseR s).1.2.2 = s := by
  by_cases hc : Lib.countB s spB = 2
  rotate_left
  · have e : parseR s = ((⟨#[]⟩, 0, ⟨#[]⟩), 2) := by unfold parseR; rw [if_neg hc]
    rw [e] at h
    exact absurd h (by decide)
  obtain ⟨a, b, c, hw⟩ := words3 hc (by unfold wordsB; rw [hc]; exact Lib.splitB_all spB (by decide) 0 2 s hc)
  have hj : s.data.toList = a.data.toList ++ 32 :: (b.data.toList ++ 32 :: c.data.toList) := by
    refine split3_join _ _ _ _ ?_
    have h2 := Lib.splitB_data spB 0 2 s
    have hw2 : Lib.splitB spB 0 2 s = [a, b, c] := by rw [← hw]; unfold wordsB; rw [hc]
    rw [hw2] at h2
    exact h2.symm
  by_cases hb : b.size ≤ 4 ∧ canN b.data.toList = true
  rotate_left
  · have e : parseR s = ((⟨#[]⟩, 0, ⟨#[]⟩), 2) := by unfold parseR; rw [if_pos hc, hw]; simp only; rw [if_neg hb]
    rw [e] at h
    exact absurd h (by decide)
  by_cases hi : imgE a (valN b.data.toList : Int) c = 0
  rotate_left
  · have e : parseR s = ((⟨#[]⟩, 0, ⟨#[]⟩), imgE a (valN b.data.toList : Int) c) := by unfold parseR; rw [if_pos hc, hw]; simp only; rw [if_pos hb, if_neg hi]
    rw [e] at h
    exact absurd h hi
  have e : parseR s = ((a, (valN b.data.toList : Int), c), 0) := by unfold parseR; rw [if_pos hc, hw]; simp only; rw [if_pos hb, if_pos hi]
  rw [e]
  refine ⟨hi, bytes_ext ?_⟩
  rw [lineS_data, hj, itoaS_data, Lib.itoa_nonneg, digits_can _ b.data.toList rfl hb.2]
theorem parse_cases (s : ByteArray) : (∃ n v c, imgE n v c = 0 ∧ lineS n v c = s ∧ parseR s = ((n, v, c), 0)) ∨ (∃ e, e ≠ 0 ∧ parseR s = ((⟨#[]⟩, 0, ⟨#[]⟩), e)) := by
  by_cases h : (parseR s).2 = 0
  · obtain ⟨h1, h2⟩ := line_parse h
    exact Or.inl ⟨_, _, _, h1, h2, by rw [← h]⟩
  · refine Or.inr ⟨(parseR s).2, h, ?_⟩
    revert h
    unfold parseR
    split
    · split
      · split
        · split
          · intro h; exact absurd rfl h
          · intro _; rfl
        · intro _; rfl
      · intro _; rfl
    · intro _; rfl

theorem newE_zero {na ca nb cb : ByteArray} {va vb : Int} : newE na va ca nb vb cb = 0 ↔ imgE na va ca = 0 ∧ imgE nb vb cb = 0 ∧ na = nb := by
  unfold newE
  constructor
  · intro h
    by_cases h1 : imgE na va ca = 0
    · rw [if_pos h1] at h
      by_cases h2 : imgE nb vb cb = 0
      · rw [if_pos h2] at h
        by_cases h3 : na.data.toList = nb.data.toList
        · exact ⟨h1, h2, bytes_ext h3⟩
        · rw [if_neg h3] at h; exact absurd h (by decide)
      · rw [if_neg h2] at h; exact absurd h h2
    · rw [if_neg h1] at h; exact absurd h h1
  · rintro ⟨h1, h2, h3⟩
    rw [if_pos h1, if_pos h2, if_pos (by rw [h3])]

theorem newE_self {n c : ByteArray} {v : Int} (h : imgE n v c = 0) : newE n v c n v c = 0 := newE_zero.2 ⟨h, h, rfl⟩
theorem newB_self (n : ByteArray) (v : Int) (c : ByteArray) : newB n v c n v c = false := by
  unfold newB
  rw [decide_eq_false (show ¬ v < v by omega), Bool.and_false]
theorem newE_turn {na ca nb cb : ByteArray} {va vb : Int} (h : newE na va ca nb vb cb = 0) : newE nb vb cb na va ca = 0 := by
  obtain ⟨h1, h2, h3⟩ := newE_zero.1 h
  exact newE_zero.2 ⟨h2, h1, h3.symm⟩
theorem newE_far {na ca nb cb nd cd : ByteArray} {va vb vd : Int} (h : newE na va ca nb vb cb = 0) (h' : newE nb vb cb nd vd cd = 0) : newE na va ca nd vd cd = 0 := by
  obtain ⟨h1, h2, h3⟩ := newE_zero.1 h
  obtain ⟨k1, k2, k3⟩ := newE_zero.1 h'
  exact newE_zero.2 ⟨h1, k2, h3.trans k3⟩
theorem newB_eq {na ca nb cb : ByteArray} {va vb : Int} (h : newE na va ca nb vb cb = 0) : newB na va ca nb vb cb = decide (vb < va) := by
  unfold newB; rw [h]; rfl
theorem newB_not {na ca nb cb : ByteArray} {va vb : Int} (h : newE na va ca nb vb cb = 0) (h' : newE nb vb cb na va ca = 0) : newB na va ca nb vb cb = true → newB nb vb cb na va ca = false := by
  rw [newB_eq h, newB_eq h']
  intro e
  have := of_decide_eq_true e
  exact decide_eq_false (by omega)
theorem newB_far {na ca nb cb nd cd : ByteArray} {va vb vd : Int} (h : newE na va ca nb vb cb = 0) (h' : newE nb vb cb nd vd cd = 0) (h2 : newE na va ca nd vd cd = 0) : newB na va ca nb vb cb = true → newB nb vb cb nd vd cd = true → newB na va ca nd vd cd = true := by
  rw [newB_eq h, newB_eq h', newB_eq h2]
  intro e e'
  have := of_decide_eq_true e
  have := of_decide_eq_true e'
  exact decide_eq_true (by omega)

/-- "os 12 abc" -/
abbrev osN : ByteArray := { data := #[111, 115] }
abbrev abcN : ByteArray := { data := #[97, 98, 99] }
abbrev factS : ByteArray := { data := #[111, 115, 32, 49, 50, 32, 97, 98, 99] }
theorem fact_img : imgE osN 12 abcN = 0 := by decide
theorem fact_line : lineS osN 12 abcN = factS := by
  refine bytes_ext ?_
  have h := digits_can 2 [49, 50] rfl (by decide)
  have hv : valN [49, 50] = 12 := by decide
  rw [hv] at h
  rw [lineS_data, itoaS_data, show (12 : Int) = ((12 : Nat) : Int) from rfl, Lib.itoa_nonneg, h]
  rfl
theorem fact_parse : parseR factS = ((osN, 12, abcN), 0) := by
  rw [← fact_line]; exact parse_line fact_img

end Go.Proofs.YtalgnjdnanlidaaDoor
