/- The reference's Read: a text as an image, and that it says what Parse does. -/
import Derived.Test.YtalgnjdnanlidaaDoorRows
import Derived.Test.YtalgnjdnanlidaaDoorNum
import Derived.Test.YtalgnjdnanlidaaDoorBase
import Derived.Test.YtalgnjdnanlidaaDoorImg
import Derived.Test.YtalgnjdnanlidaaDoorNumP
import Derived.Test.YtalgnjdnanlidaaDoorParse
import Derived.Test.YtalgnjdnanlidaaDoorParse2
import Derived.Test.YtalgnjdnanlidaaDoorWords
import Derived.Test.YtalgnjdnanlidaaDoorRefCut
import Derived.Test.YtalgnjdnanlidaaDoorRefNum
import Derived.Test.YtalgnjdnanlidaaDoorRefI
import Derived.WalkKit
import Derived.WalkSpells
import Derived.WalkLawsBesides
import Derived.Lib.Hide
import Derived.Deep.RegionHeld3
namespace Go.Proofs.YtalgnjdnanlidaaDoor
open Go.RowKit
set_option maxRecDepth 100000
set_option linter.unusedVariables false
set_option linter.unusedSimpArgs false

/-- A list cut at each c, one byte at a time. -/
def cutA (c : UInt8) : List UInt8 → List UInt8 → List (List UInt8)
  | cur, [] => [cur]
  | cur, x :: r => if x = c then cur :: cutA c [] r else cutA c (cur ++ [x]) r
theorem split_cutA : ∀ (l cur : List UInt8), (∀ x ∈ cur, x ≠ 32) → Lib.splitK [32] 0 (l.count 32) (cur ++ l) = cutA 32 cur l
  | [], cur, h => by rw [List.count_nil, List.append_nil]; rfl
  | x :: r, cur, h => by
    by_cases hx : x = 32
    · subst hx
      have ih := split_cutA r [] (by simp)
      rw [List.nil_append] at ih
      rw [List.count_cons_self, splitK_step _ cur r h, ih, cutA, if_pos rfl]
    · have ih := split_cutA r (cur ++ [x]) (fun y hy => by
        rcases List.mem_append.1 hy with h1 | h1
        · exact h y h1
        · rw [List.mem_singleton.1 h1]; exact hx)
      rw [List.append_assoc] at ih
      rw [List.count_cons_of_ne (by simpa using hx), cutA, if_neg hx, ← ih]
      rfl
theorem cutF_data (s : ByteArray) (c : UInt8) : ∀ (k f : Nat), k ≤ s.size → f ≤ s.size - k → (cutF s c k f).map (·.data.toList) = cutA c ((s.data.toList.drop f).take (s.size - k - f)) (s.data.toList.drop (s.size - k))
  | 0, f, _, hf => by
    have hl : s.data.toList.length = s.size := by simp
    rw [Nat.sub_zero, show s.data.toList.drop s.size = [] from List.drop_eq_nil_of_le (by omega)]
    show [(s.extract f s.size).data.toList] = [_]
    rw [Lib.extract_data]
  | k + 1, f, hk, hf => by
    have hl : s.data.toList.length = s.size := by simp
    obtain ⟨i, hi⟩ : ∃ i, s.size - (k + 1) = i := ⟨_, rfl⟩
    have hik : s.size - k = i + 1 := by omega
    have hlt : i < s.data.toList.length := by omega
    have hd : s.data.toList.drop i = s.data.toList.getD i 0 :: s.data.toList.drop (i + 1) := by
      rw [List.drop_eq_getElem_cons hlt, List.getD_eq_getElem?_getD, List.getElem?_eq_getElem hlt]; rfl
    show ((if s.data.toList.getD (s.size - (k + 1)) 0 = c then s.extract f (s.size - (k + 1)) :: cutF s c k (s.size - k) else cutF s c k f)).map (·.data.toList) = _
    rw [hi, hik, hd, cutA]
    by_cases hc : s.data.toList.getD i 0 = c
    · rw [if_pos hc, if_pos hc, List.map_cons, cutF_data s c k (i + 1) (by omega) (by omega), hik, Nat.sub_self, List.take_zero, Lib.extract_data]
    · rw [if_neg hc, if_neg hc, cutF_data s c k f (by omega) (by omega), hik]
      have e : (s.data.toList.drop f).take (i - f) ++ [s.data.toList.getD i 0] = (s.data.toList.drop f).take (i + 1 - f) := by
        have h1 : i - f < (s.data.toList.drop f).length := by rw [List.length_drop]; omega
        rw [show i + 1 - f = (i - f) + 1 by omega, List.take_succ_eq_append_getElem h1]
        congr 2
        rw [List.getElem_drop, List.getD_eq_getElem?_getD]
        have e2 : f + (i - f) = i := by omega
        simp only [e2]
        rw [List.getElem?_eq_getElem hlt]; rfl
      rw [e]
theorem maps_inj : ∀ (a b : List ByteArray), a.map (·.data.toList) = b.map (·.data.toList) → a = b
  | [], [], _ => rfl
  | [], y :: s, h => by simp at h
  | x :: r, [], h => by simp at h
  | x :: r, y :: s, h => by
    rw [List.map_cons, List.map_cons] at h
    injection h with h1 h2
    rw [bytes_ext h1, maps_inj r s h2]
theorem cut_words (s : ByteArray) : cutF s 32 s.size 0 = wordsB s := by
  refine maps_inj _ _ ?_
  have hl : s.data.toList.length = s.size := by simp
  rw [cutF_data s 32 s.size 0 (Nat.le_refl _) (by omega)]
  unfold wordsB
  rw [Lib.splitB_data]
  have e : Lib.countB s spB = s.data.toList.count 32 := Lib.count_one 32 s.data.toList
  rw [e, Nat.sub_self, Nat.sub_self, List.take_zero, List.drop_zero]
  have h := split_cutA s.data.toList [] (by simp)
  rw [List.nil_append] at h
  exact h.symm
theorem words_len (s : ByteArray) : (wordsB s).length = Lib.countB s spB + 1 := Lib.splitB_all spB (by decide) 0 _ s rfl

theorem rCut_words (s : ByteArray) (w : World) (hs : s.size ≤ 1048576) :
    Calls Tryd.prog 38 #[.string s, .int .u8 32] w fun e w' => ∃ (A : Option Addr) (cp : Nat), e = .returned (.slice A (wordsB s).length cp) ∧ CellsAt w' A (strCells (wordsB s)) ∧ Below w.heap.size w w' := by
  have h := rCut_any s 32 32 rfl w hs
  rw [cut_words] at h
  exact h

set_option maxHeartbeats 2000000 in
theorem rRead_any (s : ByteArray) (w : World) (hs : s.size ≤ 1048576) :
    Calls Tryd.prog 19 #[.string s] w fun e w' => e = .returned (.tuple #[.agg #[.string (parseR s).1.1, .int .i64 (parseR s).1.2.1, .string (parseR s).1.2.2], .int .i64 (parseR s).2]) ∧ Below w.heap.size w w' := by
  have HS := Lib.hid (fun w => rCut_words s w hs)
  by_cases hc : Lib.countB s spB = 2
  rotate_left
  · have HP : Hid (parseR s = ((⟨#[]⟩, 0, ⟨#[]⟩), 2)) := Lib.hid (by unfold parseR; rw [if_neg hc])
    rw [HP.out]
    have hl := words_len s
    obtain ⟨L, hL⟩ : ∃ L, wordsB s = L := ⟨_, rfl⟩
    rw [hL] at HS hl
    obtain ⟨N, hN⟩ : ∃ N, L.length = N := ⟨_, rfl⟩
    rw [hN] at HS hl
    have t : ¬ (N : Int) = 3 := by omega
    clear hL hN hl hc HP hs
    go_enter Tryd.func19, Tryd.ntmps19
    go_wp2_with fail
    refine (HS.out _).mono ?_
    rintro e w1 ⟨A, cp, rfl, hC, hb1⟩
    have HB := Lib.hid ((Box.new w 31 #[.string ⟨#[]⟩, .int .i64 0, .string ⟨#[]⟩]).below hb1)
    have hbw : Below w.heap.size w w1 := grow_step (grow_alloc (grow_refl _) _) hb1
    have cB := HB.out.cell
    have lB := HB.out.lt
    have fB := HB.out.frozen
    clear hb1
    go_wp2_with fail
    exact bodyPost_ret (v := .tuple #[.agg #[.string ⟨#[]⟩, .int .i64 0, .string ⟨#[]⟩], .int .i64 2]) (ret_cell_tmp Tryd.results19 rfl (HB.out.fill3 (.string ⟨#[]⟩) (.int .i64 0) (.string ⟨#[]⟩)) Tryd.underlying31 rfl (by kernel_rfl)) rfl ⟨rfl, (by repeat (first | (with_reducible exact grow_refl _) | (with_reducible assumption) | (with_reducible refine grow_alloc ?_ _) | (with_reducible refine grow_set ?_ (by first | exact Nat.le_refl _ | (simp; done) | (simp; omega) | omega) _) | (with_reducible refine grow_drewN ?_ _) | (with_reducible refine grow_drew ?_) | (with_reducible refine grow_step ?_ (by assumption)) | (with_reducible refine grow_base ?_ (by assumption))))⟩
  obtain ⟨a, b, c, hw⟩ := words3 hc (by rw [words_len, hc])
  have hsz : ∀ x ∈ [a, b, c], x.size ≤ s.size := fun x hx => by rw [← hw] at hx; exact word_size spB _ s x hx
  have za : a.size ≤ 1048576 := Nat.le_trans (hsz a (by simp)) hs
  have zb : b.size ≤ 1048576 := Nat.le_trans (hsz b (by simp)) hs
  have zc : c.size ≤ 1048576 := Nat.le_trans (hsz c (by simp)) hs
  rw [hw] at HS
  have HNB := Lib.hid (fun w => rNumber_any b w (by omega))
  by_cases hb : b.size ≤ 4 ∧ canN b.data.toList = true
  rotate_left
  · have HP : Hid (parseR s = ((⟨#[]⟩, 0, ⟨#[]⟩), 2)) := Lib.hid (by unfold parseR; rw [if_pos hc, hw]; simp only; rw [if_neg hb])
    rw [HP.out]
    rw [numR_no hb] at HNB
    clear hsz hb hc hw HP hs
    go_enter Tryd.func19, Tryd.ntmps19
    go_wp2_with fail
    refine (HS.out _).mono ?_
    rintro e w1 ⟨A, cp, rfl, hC, hb1⟩
    have HB := Lib.hid ((Box.new w 31 #[.string ⟨#[]⟩, .int .i64 0, .string ⟨#[]⟩]).below hb1)
    have hbw : Below w.heap.size w w1 := grow_step (grow_alloc (grow_refl _) _) hb1
    obtain ⟨b1, o1, rfl, l1, c1⟩ := hC 1 (.string b) rfl
    have cB := HB.out.cell
    have lB := HB.out.lt
    have fB := HB.out.frozen
    clear hb1 hC
    go_wp2_with fail
    refine (HNB.out _).mono ?_
    rintro e w2 ⟨rfl, rfl⟩
    go_wp2_with fail
    exact bodyPost_ret (v := .tuple #[.agg #[.string ⟨#[]⟩, .int .i64 0, .string ⟨#[]⟩], .int .i64 2]) (ret_cell_tmp Tryd.results19 rfl (HB.out.fill3 (.string ⟨#[]⟩) (.int .i64 0) (.string ⟨#[]⟩)) Tryd.underlying31 rfl (by kernel_rfl)) rfl ⟨rfl, (by repeat (first | (with_reducible exact grow_refl _) | (with_reducible assumption) | (with_reducible refine grow_alloc ?_ _) | (with_reducible refine grow_set ?_ (by first | exact Nat.le_refl _ | (simp; done) | (simp; omega) | omega) _) | (with_reducible refine grow_drewN ?_ _) | (with_reducible refine grow_drew ?_) | (with_reducible refine grow_step ?_ (by assumption)) | (with_reducible refine grow_base ?_ (by assumption))))⟩
  rw [numR_yes hb] at HNB
  obtain ⟨n, hn⟩ : ∃ n, (valN b.data.toList : Int) = n := ⟨_, rfl⟩
  rw [hn] at HNB
  obtain ⟨E, hE⟩ : ∃ E, imgE a n c = E := ⟨_, rfl⟩
  have HE := Lib.hid hE
  have HX : Hid (parseR s = if E = 0 then ((a, n, c), 0) else ((⟨#[]⟩, 0, ⟨#[]⟩), E)) := Lib.hid (by unfold parseR; rw [if_pos hc, hw]; simp only; rw [if_pos hb, hn, hE])
  clear hsz hb hc hw hs hn hE
  by_cases h0 : E = 0
  all_goals
    first
    | (have HP : Hid (parseR s = ((a, n, c), 0)) := Lib.hid (by rw [HX.out, if_pos h0]))
    | (have HP : Hid (parseR s = ((⟨#[]⟩, 0, ⟨#[]⟩), E)) := Lib.hid (by rw [HX.out, if_neg h0]))
    rw [HP.out]
    try subst h0
    clear HP HX
    go_enter Tryd.func19, Tryd.ntmps19
    go_wp2_with fail
    refine (HS.out _).mono ?_
    rintro e w1 ⟨A, cp, rfl, hC, hb1⟩
    have HB := Lib.hid ((Box.new w 31 #[.string ⟨#[]⟩, .int .i64 0, .string ⟨#[]⟩]).below hb1)
    have hbw : Below w.heap.size w w1 := grow_step (grow_alloc (grow_refl _) _) hb1
    obtain ⟨b1, o1, rfl, l1, c1⟩ := hC 1 (.string b) rfl
    obtain ⟨b2, o2, q1, l2, c2⟩ := hC 0 (.string a) rfl
    injection q1 with q1
    injection q1 with q1 q2
    subst q1
    subst q2
    obtain ⟨b2, o2, q1, l3, c3⟩ := hC 2 (.string c) rfl
    injection q1 with q1
    injection q1 with q1 q2
    subst q1
    subst q2
    rw [Nat.add_zero] at c2
    have cB := HB.out.cell
    have lB := HB.out.lt
    have fB := HB.out.frozen
    clear hb1 hC
    go_wp2_with fail
    refine (HNB.out _).mono ?_
    rintro e w2 ⟨rfl, rfl⟩
    go_wp2_with fail
    go_region
    all_goals go_wp2_with fail
    have hb4 : Below w1.heap.size w1 (w1.alloc (.cells #[.string a, .int .i64 n, .string c] 31)).drew := grow_drew (grow_alloc (grow_refl _) _)
    have HM := Lib.hid (show Box (w1.alloc (.cells #[.string a, .int .i64 n, .string c] 31)).drew w1.heap.size 31 #[.string a, .int .i64 n, .string c] from Box.new _ _ _)
    refine (rImage_any a n c _ (by omega) (by omega)).mono ?_
    rintro e w5 ⟨rfl, hb5⟩
    rw [HE.out]
    have HB5 := Lib.hid ((HB.out.below hb4).below hb5)
    have HM5 := Lib.hid (HM.out.below hb5)
    have hbw5 : Below w.heap.size w w5 := grow_step (grow_step hbw hb4) hb5
    have cM := HM5.out.cell
    have lM := HM5.out.lt
    have cB5 := HB5.out.cell
    have lB5 := HB5.out.lt
    have fB5 := HB5.out.frozen
    clear cB lB fB c1 c2 c3 l1 l2 l3 hb4 hb5
    go_wp2_with fail
    first
    | exact bodyPost_ret (v := .tuple #[.agg #[.string a, .int .i64 n, .string c], .int .i64 0]) (ret_cell_tmp Tryd.results19 rfl (HB5.out.fill3 (.string a) (.int .i64 n) (.string c)) Tryd.underlying31 rfl (by kernel_rfl)) rfl ⟨rfl, (by repeat (first | (with_reducible exact grow_refl _) | (with_reducible assumption) | (with_reducible refine grow_alloc ?_ _) | (with_reducible refine grow_set ?_ (by first | exact Nat.le_refl _ | (simp; done) | (simp; omega) | omega) _) | (with_reducible refine grow_drewN ?_ _) | (with_reducible refine grow_drew ?_) | (with_reducible refine grow_step ?_ (by assumption)) | (with_reducible refine grow_base ?_ (by assumption))))⟩
    | exact bodyPost_ret (v := .tuple #[.agg #[.string ⟨#[]⟩, .int .i64 0, .string ⟨#[]⟩], .int .i64 E]) (ret_cell_tmp Tryd.results19 rfl (HB5.out.fill3 (.string ⟨#[]⟩) (.int .i64 0) (.string ⟨#[]⟩)) Tryd.underlying31 rfl (by kernel_rfl)) rfl ⟨rfl, (by repeat (first | (with_reducible exact grow_refl _) | (with_reducible assumption) | (with_reducible refine grow_alloc ?_ _) | (with_reducible refine grow_set ?_ (by first | exact Nat.le_refl _ | (simp; done) | (simp; omega) | omega) _) | (with_reducible refine grow_drewN ?_ _) | (with_reducible refine grow_drew ?_) | (with_reducible refine grow_step ?_ (by assumption)) | (with_reducible refine grow_base ?_ (by assumption))))⟩

end Go.Proofs.YtalgnjdnanlidaaDoor
