/- ImageTells: what is wrong with any image, its measure, which of any two is newer, as text, and any text as one. Where what the law reads is of bulk at most 1048576; the listed package variables hold what the program's text lays. -/
import Derived.Test.YtalgnjdnanlidaaDoorRows
import Derived.Test.YtalgnjdnanlidaaDoorOpen
import Derived.Test.YtalgnjdnanlidaaDoorOpI
import Derived.Test.YtalgnjdnanlidaaDoorTold
import Derived.Test.YtalgnjdnanlidaaDoorParse
import Derived.Test.YtalgnjdnanlidaaDoorParse2
import Derived.Test.YtalgnjdnanlidaaDoorImg3
import Derived.Test.YtalgnjdnanlidaaDoorNewer
import Derived.Test.YtalgnjdnanlidaaDoorWords
import Derived.Test.YtalgnjdnanlidaaDoorImEq
import Derived.Test.YtalgnjdnanlidaaDoorRefA
import Derived.Test.YtalgnjdnanlidaaDoorRefI
import Derived.Test.YtalgnjdnanlidaaDoorRefL
import Derived.Test.YtalgnjdnanlidaaDoorRefRead
import Derived.Test.YtalgnjdnanlidaaDoorLiftU
import Derived.Test.YtalgnjdnanlidaaDoorLiftJ
import Derived.WalkKit
import Derived.WalkSpells
import Derived.Lib.Hide
import Derived.Deep.RegionHeld3
namespace Go.Proofs.YtalgnjdnanlidaaDoor
open Go.ChangeShapes Go.WideShapes Go.ChangeAt Go.RowKit
set_option linter.unusedVariables false
set_option maxRecDepth 100000

theorem error_same (E : Int) (w : World) (hg : Door w) (ik : I64 E) : Calls Tryd.prog 14 #[errV E, .int .i64 E] w fun ev w' => ev = .returned (.bool true) ∧ Below w.heap.size w w' := by
  have h := error_any E E w hg ik
  rw [beq_self_eq_true] at h
  exact h
theorem rImage_E {n : ByteArray} {v : Int} {c : ByteArray} {E : Int} (hn : n.size ≤ 140737488351232) (hc : c.size ≤ 140737488351232) (hE : imgE n v c = E) (w : World) :
    Calls Tryd.prog 13 #[.agg #[.string n, .int .i64 v, .string c]] w fun e w' => e = .returned (.int .i64 E) ∧ Below w.heap.size w w' := by
  have h := rImage_any n v c w (by omega) (by omega)
  rw [hE] at h
  exact h
theorem imgCheck_E {n : ByteArray} {v : Int} {c : ByteArray} {E : Int} (hn : n.size ≤ 140737488351232) (hc : c.size ≤ 140737488351232) (hE : imgE n v c = E) (w : World) :
    Calls Tryd.prog 15 #[.agg #[.string n, .int .i64 v, .string c]] w fun e w' => e = .returned (errV E) ∧ Below w.heap.size w w' := by
  have h := imgCheck_any n v c w (by omega) (by omega)
  rw [hE] at h
  exact h
theorem rLine_yes {n : ByteArray} {v : Int} {c : ByteArray} (hE : imgE n v c = 0) (w : World) :
    Calls Tryd.prog 16 #[.agg #[.string n, .int .i64 v, .string c]] w fun e w' => e = .returned (.string (lineS n v c)) ∧ Below w.heap.size w w' := by
  obtain ⟨_, _, _, h1, h2, h3, h4⟩ := imgE_ok hE
  exact rLine_any n v c w (by omega) (by omega) (by omega) h4
theorem rText_line {n : ByteArray} {v : Int} {c : ByteArray} (hE : imgE n v c = 0) (w : World) :
    Calls Tryd.prog 17 #[.string (lineS n v c)] w fun e w' => e = .returned (.int .i64 (imgM n v c)) ∧ Below w.heap.size w w' := by
  have hs : (lineS n v c).size ≤ 1000 := by
    obtain ⟨_, _, _, h1, h2, h3, h4⟩ := imgE_ok hE
    have hv := itoa_len (v := v) (by omega) h4
    rw [lineS_size]
    omega
  refine (rText_any (lineS n v c) w (by omega)).mono fun e w' h => ⟨h.1, ?_⟩
  rw [h.2]; exact Below.refl _ _
theorem newer_gen {na ca nb cb : ByteArray} {va vb : Int} (h1 : na.size ≤ 140737488351232) (h2 : ca.size ≤ 140737488351232) (h3 : nb.size ≤ 140737488351232) (h4 : cb.size ≤ 140737488351232) (B : Bool) (E : Int) (hB : newB na va ca nb vb cb = B) (hE : newE na va ca nb vb cb = E) (w : World) :
    Calls Tryd.prog 12 #[.agg #[.string na, .int .i64 va, .string ca], .agg #[.string nb, .int .i64 vb, .string cb]] w fun e w' => e = .returned (.tuple #[.bool B, errV E]) ∧ Below w.heap.size w w' := by
  rw [← hB, ← hE]
  exact imgNewer_any na va ca nb vb cb w (by omega) (by omega) (by omega) (by omega)
theorem newB_fault {na ca nb cb : ByteArray} {va vb E : Int} (h : newE na va ca nb vb cb = E) (h0 : E ≠ 0) : newB na va ca nb vb cb = false := by
  unfold newB
  rw [h, decide_eq_false h0]; rfl
theorem newE_first {na ca nb cb : ByteArray} {va vb E : Int} (h : imgE na va ca = E) (h0 : E ≠ 0) : newE na va ca nb vb cb = E := by
  unfold newE; rw [h, if_neg h0]
theorem newE_second {na ca nb cb : ByteArray} {va vb E : Int} (h : imgE na va ca = 0) (h1 : imgE nb vb cb = E) (h0 : E ≠ 0) : newE na va ca nb vb cb = E := by
  unfold newE; rw [h, h1, if_pos rfl, if_neg h0]
theorem newE_names {na ca nb cb : ByteArray} {va vb : Int} (h : imgE na va ca = 0) (h1 : imgE nb vb cb = 0) (h0 : na.data.toList ≠ nb.data.toList) : newE na va ca nb vb cb = 3 := by
  unfold newE; rw [h, h1, if_pos rfl, if_pos rfl, if_neg h0]
theorem parseR_bd (s : ByteArray) : I64 (parseR s).2 ∧ I64 (parseR s).1.2.1 ∧ (parseR s).1.1.size ≤ 1000 ∧ (parseR s).1.2.2.size ≤ 1000 := by
  have h2 : I64 (parseR s).2 := by
    unfold parseR
    split
    · split
      · split
        · split
          · exact (show I64 0 from ⟨by decide, by decide⟩)
          · exact imgE_bd _ _ _
        · exact (show I64 2 from ⟨by decide, by decide⟩)
      · exact (show I64 2 from ⟨by decide, by decide⟩)
    · exact (show I64 2 from ⟨by decide, by decide⟩)
  refine ⟨h2, ?_⟩
  rcases parse_cases s with ⟨n, v, c, hi, _, hp⟩ | ⟨e, _, hp⟩
  · obtain ⟨_, _, _, k1, k2, k3, k4⟩ := imgE_ok hi
    rw [hp]
    exact ⟨⟨by show -9223372036854775808 ≤ v; omega, by show v ≤ 9223372036854775807; omega⟩, by show n.size ≤ 1000; omega, by show c.size ≤ 1000; omega⟩
  · rw [hp]
    exact ⟨(show I64 0 from ⟨by decide, by decide⟩), Nat.zero_le _, Nat.zero_le _⟩
def Two2 (w : World) (g : Nat) (n0 : ByteArray) (v0 : Int) (c0 n1 : ByteArray) (v1 : Int) (c1 : ByteArray) : Prop :=
  Box w g 31 #[.string n0, .int .i64 v0, .string c0] ∧ Box w (g + 1) 31 #[.string n1, .int .i64 v1, .string c1]
theorem Two2.below {w w' : World} {g : Nat} {n0 : ByteArray} {v0 : Int} {c0 n1 : ByteArray} {v1 : Int} {c1 : ByteArray} (h : Two2 w g n0 v0 c0 n1 v1 c1) (hb : Below w.heap.size w w') : Two2 w' g n0 v0 c0 n1 v1 c1 :=
  ⟨h.1.below hb, h.2.below hb⟩
theorem Two2.new (w : World) (n0 : ByteArray) (v0 : Int) (c0 n1 : ByteArray) (v1 : Int) (c1 : ByteArray) : Two2 ((w.alloc (.cells #[.string n0, .int .i64 v0, .string c0] 31)).alloc (.cells #[.string n1, .int .i64 v1, .string c1] 31)) w.heap.size n0 v0 c0 n1 v1 c1 := by
  have e1 : (w.alloc (.cells #[.string n0, .int .i64 v0, .string c0] 31)).heap.size = w.heap.size + 1 := by simp
  refine ⟨(Box.new w _ _).below (grow_alloc (grow_refl _) _), ?_⟩
  have h := Box.new (w.alloc (.cells #[.string n0, .int .i64 v0, .string c0] 31)) 31 #[.string n1, .int .i64 v1, .string c1]
  rw [e1] at h
  exact h

set_option maxHeartbeats 8000000 in
theorem imageTells_walk (w : World) (n0 : ByteArray) (v0 : Int) (c0 n1 : ByteArray) (v1 : Int) (c1 s : ByteArray) (i0 : I64 v0) (hn0 : n0.size ≤ 140737488351232) (hc0 : c0.size ≤ 140737488351232) (i1 : I64 v1) (hn1 : n1.size ≤ 140737488351232) (hc1 : c1.size ≤ 140737488351232) (hs : s.size ≤ 1048576) (hg : ReadTD w) :
    Calls Tryd.prog 5 #[.agg #[.string n0, .int .i64 v0, .string c0], .agg #[.string n1, .int .i64 v1, .string c1], .string s] w fun e w' => e = .returned (.bool true) ∧ Below w.heap.size w w' := by
  have en := fun k w => err_neq k w
  have ee := fun k w => err_eql k w
  have gn := fun o k w => err_guard_neq o k w
  have ge := fun o k w => err_guard_eql o k w
  have gI := fun x0 x1 x2 y0 y1 y2 op o p w => guardIm x0 x1 x2 y0 y1 y2 op o p w
  have HG := Lib.hid hg.1
  have HD := Lib.hid hg.2
  have HP := Lib.hid (fun w h => imgParse_any s w hs h)
  have HRD := Lib.hid (fun w => rRead_any s w hs)
  obtain ⟨b1, b2, b3, b4⟩ := parseR_bd s
  obtain ⟨⟨⟨pn, pv, pc⟩, pE⟩, hp⟩ : ∃ x, parseR s = x := ⟨_, rfl⟩
  rw [hp] at HP HRD b1 b2 b3 b4
  have IP : Hid (I64 pE) := Lib.hid b1
  have VP : Hid (I64 pv) := Lib.hid b2
  have ZP : Hid (pn.size ≤ 1000 ∧ pc.size ≤ 1000) := Lib.hid ⟨b3, b4⟩
  have HN0 := Lib.hid hn0
  have HC0 := Lib.hid hc0
  have HN1 := Lib.hid hn1
  have HC1 := Lib.hid hc1
  have I0 : Hid (I64 (0 : Int)) := Lib.hid ⟨by decide, by decide⟩
  have I3 : Hid (I64 (3 : Int)) := Lib.hid ⟨by decide, by decide⟩
  clear hg hs hn0 hc0 hn1 hc1 b1 b2 b3 b4 hp
  obtain ⟨E, hE⟩ : ∃ E, imgE n0 v0 c0 = E := ⟨_, rfl⟩
  have IE : Hid (I64 E) := Lib.hid (by rw [← hE]; exact imgE_bd _ _ _)
  have HE := Lib.hid hE
  clear hE
  by_cases h0 : E = 0
  rotate_left
  · have H0 := Lib.hid h0
    have t0 : (E == 0) = false := by simp [h0]
    clear h0
    go_enter Tryd.func5, Tryd.ntmps5
    go_wp2_with fail
    refine (rImage_E HN0.out HC0.out HE.out _).mono ?_
    rintro e u1 ⟨rfl, hb1⟩
    have HT := Lib.hid ((Two2.new w n0 v0 c0 n1 v1 c1).below hb1)
    have hw1 : Below w.heap.size w u1 := (by repeat (first | (with_reducible exact grow_refl _) | (with_reducible assumption) | (with_reducible refine grow_alloc ?_ _) | (with_reducible refine grow_set ?_ (by first | exact Nat.le_refl _ | (simp; done) | (simp; omega) | omega) _) | (with_reducible refine grow_drewN ?_ _) | (with_reducible refine grow_drew ?_) | (with_reducible refine grow_step ?_ (by assumption)) | (with_reducible refine grow_base ?_ (by assumption))))
    have q0 := HT.out.1.cell
    have q1 := HT.out.2.cell
    have l0 := HT.out.1.lt
    have l1 := HT.out.2.lt
    go_wp2_with fail
    refine (imgCheck_E HN0.out HC0.out HE.out _).mono ?_
    rintro e u2 ⟨rfl, hb2⟩
    have hs2 : Below u1.heap.size u1 u2 := (by repeat (first | (with_reducible exact grow_refl _) | (with_reducible assumption) | (with_reducible refine grow_alloc ?_ _) | (with_reducible refine grow_set ?_ (by first | exact Nat.le_refl _ | (simp; done) | (simp; omega) | omega) _) | (with_reducible refine grow_drewN ?_ _) | (with_reducible refine grow_drew ?_) | (with_reducible refine grow_step ?_ (by assumption)) | (with_reducible refine grow_base ?_ (by assumption))))
    have HT := Lib.hid (HT.out.below hs2)
    clear hs2
    have hw2 : Below w.heap.size w u2 := (by repeat (first | (with_reducible exact grow_refl _) | (with_reducible assumption) | (with_reducible refine grow_alloc ?_ _) | (with_reducible refine grow_set ?_ (by first | exact Nat.le_refl _ | (simp; done) | (simp; omega) | omega) _) | (with_reducible refine grow_drewN ?_ _) | (with_reducible refine grow_drew ?_) | (with_reducible refine grow_step ?_ (by assumption)) | (with_reducible refine grow_base ?_ (by assumption))))
    clear q0 q1 l0 l1
    go_wp2_with fail
    refine (error_same E _ (HD.out.below (by repeat (first | (with_reducible exact grow_refl _) | (with_reducible assumption) | (with_reducible refine grow_alloc ?_ _) | (with_reducible refine grow_set ?_ (by first | exact Nat.le_refl _ | (simp; done) | (simp; omega) | omega) _) | (with_reducible refine grow_drewN ?_ _) | (with_reducible refine grow_drew ?_) | (with_reducible refine grow_step ?_ (by assumption)) | (with_reducible refine grow_base ?_ (by assumption))))) IE.out).mono ?_
    rintro e u3 ⟨rfl, hb3⟩
    have hs3 : Below u2.heap.size u2 u3 := (by repeat (first | (with_reducible exact grow_refl _) | (with_reducible assumption) | (with_reducible refine grow_alloc ?_ _) | (with_reducible refine grow_set ?_ (by first | exact Nat.le_refl _ | (simp; done) | (simp; omega) | omega) _) | (with_reducible refine grow_drewN ?_ _) | (with_reducible refine grow_drew ?_) | (with_reducible refine grow_step ?_ (by assumption)) | (with_reducible refine grow_base ?_ (by assumption))))
    have HT := Lib.hid (HT.out.below hs3)
    clear hs3
    have hw3 : Below w.heap.size w u3 := (by repeat (first | (with_reducible exact grow_refl _) | (with_reducible assumption) | (with_reducible refine grow_alloc ?_ _) | (with_reducible refine grow_set ?_ (by first | exact Nat.le_refl _ | (simp; done) | (simp; omega) | omega) _) | (with_reducible refine grow_drewN ?_ _) | (with_reducible refine grow_drew ?_) | (with_reducible refine grow_step ?_ (by assumption)) | (with_reducible refine grow_base ?_ (by assumption))))
    have q0 := HT.out.1.cell
    have q1 := HT.out.2.cell
    have l0 := HT.out.1.lt
    have l1 := HT.out.2.lt
    go_wp2_with fail
    refine (imgMeasure_no n0 v0 c0 _ E HN0.out HC0.out HE.out H0.out).mono ?_
    rintro e u4 ⟨rfl, hb4⟩
    have hs4 : Below u3.heap.size u3 u4 := (by repeat (first | (with_reducible exact grow_refl _) | (with_reducible assumption) | (with_reducible refine grow_alloc ?_ _) | (with_reducible refine grow_set ?_ (by first | exact Nat.le_refl _ | (simp; done) | (simp; omega) | omega) _) | (with_reducible refine grow_drewN ?_ _) | (with_reducible refine grow_drew ?_) | (with_reducible refine grow_step ?_ (by assumption)) | (with_reducible refine grow_base ?_ (by assumption))))
    have HT := Lib.hid (HT.out.below hs4)
    clear hs4
    have hw4 : Below w.heap.size w u4 := (by repeat (first | (with_reducible exact grow_refl _) | (with_reducible assumption) | (with_reducible refine grow_alloc ?_ _) | (with_reducible refine grow_set ?_ (by first | exact Nat.le_refl _ | (simp; done) | (simp; omega) | omega) _) | (with_reducible refine grow_drewN ?_ _) | (with_reducible refine grow_drew ?_) | (with_reducible refine grow_step ?_ (by assumption)) | (with_reducible refine grow_base ?_ (by assumption))))
    clear q0 q1 l0 l1
    go_wp2_with fail
    refine (error_same E _ (HD.out.below (by repeat (first | (with_reducible exact grow_refl _) | (with_reducible assumption) | (with_reducible refine grow_alloc ?_ _) | (with_reducible refine grow_set ?_ (by first | exact Nat.le_refl _ | (simp; done) | (simp; omega) | omega) _) | (with_reducible refine grow_drewN ?_ _) | (with_reducible refine grow_drew ?_) | (with_reducible refine grow_step ?_ (by assumption)) | (with_reducible refine grow_base ?_ (by assumption))))) IE.out).mono ?_
    rintro e u5 ⟨rfl, hb5⟩
    have hs5 : Below u4.heap.size u4 u5 := (by repeat (first | (with_reducible exact grow_refl _) | (with_reducible assumption) | (with_reducible refine grow_alloc ?_ _) | (with_reducible refine grow_set ?_ (by first | exact Nat.le_refl _ | (simp; done) | (simp; omega) | omega) _) | (with_reducible refine grow_drewN ?_ _) | (with_reducible refine grow_drew ?_) | (with_reducible refine grow_step ?_ (by assumption)) | (with_reducible refine grow_base ?_ (by assumption))))
    have HT := Lib.hid (HT.out.below hs5)
    clear hs5
    have hw5 : Below w.heap.size w u5 := (by repeat (first | (with_reducible exact grow_refl _) | (with_reducible assumption) | (with_reducible refine grow_alloc ?_ _) | (with_reducible refine grow_set ?_ (by first | exact Nat.le_refl _ | (simp; done) | (simp; omega) | omega) _) | (with_reducible refine grow_drewN ?_ _) | (with_reducible refine grow_drew ?_) | (with_reducible refine grow_step ?_ (by assumption)) | (with_reducible refine grow_base ?_ (by assumption))))
    have q0 := HT.out.1.cell
    have q1 := HT.out.2.cell
    have l0 := HT.out.1.lt
    have l1 := HT.out.2.lt
    go_wp2_with fail
    refine (imgPrint_no n0 v0 c0 _ E HN0.out HC0.out HE.out H0.out).mono ?_
    rintro e u6 ⟨rfl, hb6⟩
    have hs6 : Below u5.heap.size u5 u6 := (by repeat (first | (with_reducible exact grow_refl _) | (with_reducible assumption) | (with_reducible refine grow_alloc ?_ _) | (with_reducible refine grow_set ?_ (by first | exact Nat.le_refl _ | (simp; done) | (simp; omega) | omega) _) | (with_reducible refine grow_drewN ?_ _) | (with_reducible refine grow_drew ?_) | (with_reducible refine grow_step ?_ (by assumption)) | (with_reducible refine grow_base ?_ (by assumption))))
    have HT := Lib.hid (HT.out.below hs6)
    clear hs6
    have hw6 : Below w.heap.size w u6 := (by repeat (first | (with_reducible exact grow_refl _) | (with_reducible assumption) | (with_reducible refine grow_alloc ?_ _) | (with_reducible refine grow_set ?_ (by first | exact Nat.le_refl _ | (simp; done) | (simp; omega) | omega) _) | (with_reducible refine grow_drewN ?_ _) | (with_reducible refine grow_drew ?_) | (with_reducible refine grow_step ?_ (by assumption)) | (with_reducible refine grow_base ?_ (by assumption))))
    clear q0 q1 l0 l1
    go_wp2_with fail
    refine (error_same E _ (HD.out.below (by repeat (first | (with_reducible exact grow_refl _) | (with_reducible assumption) | (with_reducible refine grow_alloc ?_ _) | (with_reducible refine grow_set ?_ (by first | exact Nat.le_refl _ | (simp; done) | (simp; omega) | omega) _) | (with_reducible refine grow_drewN ?_ _) | (with_reducible refine grow_drew ?_) | (with_reducible refine grow_step ?_ (by assumption)) | (with_reducible refine grow_base ?_ (by assumption))))) IE.out).mono ?_
    rintro e u7 ⟨rfl, hb7⟩
    have hs7 : Below u6.heap.size u6 u7 := (by repeat (first | (with_reducible exact grow_refl _) | (with_reducible assumption) | (with_reducible refine grow_alloc ?_ _) | (with_reducible refine grow_set ?_ (by first | exact Nat.le_refl _ | (simp; done) | (simp; omega) | omega) _) | (with_reducible refine grow_drewN ?_ _) | (with_reducible refine grow_drew ?_) | (with_reducible refine grow_step ?_ (by assumption)) | (with_reducible refine grow_base ?_ (by assumption))))
    have HT := Lib.hid (HT.out.below hs7)
    clear hs7
    have hw7 : Below w.heap.size w u7 := (by repeat (first | (with_reducible exact grow_refl _) | (with_reducible assumption) | (with_reducible refine grow_alloc ?_ _) | (with_reducible refine grow_set ?_ (by first | exact Nat.le_refl _ | (simp; done) | (simp; omega) | omega) _) | (with_reducible refine grow_drewN ?_ _) | (with_reducible refine grow_drew ?_) | (with_reducible refine grow_step ?_ (by assumption)) | (with_reducible refine grow_base ?_ (by assumption))))
    have q0 := HT.out.1.cell
    have q1 := HT.out.2.cell
    have l0 := HT.out.1.lt
    have l1 := HT.out.2.lt
    go_wp2_with fail
    refine (newer_gen HN0.out HC0.out HN1.out HC1.out false E (newB_fault (newE_first HE.out H0.out) H0.out) (newE_first HE.out H0.out) _).mono ?_
    rintro e u8 ⟨rfl, hb8⟩
    have hs8 : Below u7.heap.size u7 u8 := (by repeat (first | (with_reducible exact grow_refl _) | (with_reducible assumption) | (with_reducible refine grow_alloc ?_ _) | (with_reducible refine grow_set ?_ (by first | exact Nat.le_refl _ | (simp; done) | (simp; omega) | omega) _) | (with_reducible refine grow_drewN ?_ _) | (with_reducible refine grow_drew ?_) | (with_reducible refine grow_step ?_ (by assumption)) | (with_reducible refine grow_base ?_ (by assumption))))
    have HT := Lib.hid (HT.out.below hs8)
    clear hs8
    have hw8 : Below w.heap.size w u8 := (by repeat (first | (with_reducible exact grow_refl _) | (with_reducible assumption) | (with_reducible refine grow_alloc ?_ _) | (with_reducible refine grow_set ?_ (by first | exact Nat.le_refl _ | (simp; done) | (simp; omega) | omega) _) | (with_reducible refine grow_drewN ?_ _) | (with_reducible refine grow_drew ?_) | (with_reducible refine grow_step ?_ (by assumption)) | (with_reducible refine grow_base ?_ (by assumption))))
    clear q0 q1 l0 l1
    go_wp2_with fail
    refine (error_same E _ (HD.out.below (by repeat (first | (with_reducible exact grow_refl _) | (with_reducible assumption) | (with_reducible refine grow_alloc ?_ _) | (with_reducible refine grow_set ?_ (by first | exact Nat.le_refl _ | (simp; done) | (simp; omega) | omega) _) | (with_reducible refine grow_drewN ?_ _) | (with_reducible refine grow_drew ?_) | (with_reducible refine grow_step ?_ (by assumption)) | (with_reducible refine grow_base ?_ (by assumption))))) IE.out).mono ?_
    rintro e u9 ⟨rfl, hb9⟩
    have hs9 : Below u8.heap.size u8 u9 := (by repeat (first | (with_reducible exact grow_refl _) | (with_reducible assumption) | (with_reducible refine grow_alloc ?_ _) | (with_reducible refine grow_set ?_ (by first | exact Nat.le_refl _ | (simp; done) | (simp; omega) | omega) _) | (with_reducible refine grow_drewN ?_ _) | (with_reducible refine grow_drew ?_) | (with_reducible refine grow_step ?_ (by assumption)) | (with_reducible refine grow_base ?_ (by assumption))))
    have HT := Lib.hid (HT.out.below hs9)
    clear hs9
    have hw9 : Below w.heap.size w u9 := (by repeat (first | (with_reducible exact grow_refl _) | (with_reducible assumption) | (with_reducible refine grow_alloc ?_ _) | (with_reducible refine grow_set ?_ (by first | exact Nat.le_refl _ | (simp; done) | (simp; omega) | omega) _) | (with_reducible refine grow_drewN ?_ _) | (with_reducible refine grow_drew ?_) | (with_reducible refine grow_step ?_ (by assumption)) | (with_reducible refine grow_base ?_ (by assumption))))
    have q0 := HT.out.1.cell
    have q1 := HT.out.2.cell
    have l0 := HT.out.1.lt
    have l1 := HT.out.2.lt
    go_wp2_with fail
    refine (HRD.out _).mono ?_
    rintro e u10 ⟨rfl, hb10⟩
    have hs10 : Below u9.heap.size u9 u10 := (by repeat (first | (with_reducible exact grow_refl _) | (with_reducible assumption) | (with_reducible refine grow_alloc ?_ _) | (with_reducible refine grow_set ?_ (by first | exact Nat.le_refl _ | (simp; done) | (simp; omega) | omega) _) | (with_reducible refine grow_drewN ?_ _) | (with_reducible refine grow_drew ?_) | (with_reducible refine grow_step ?_ (by assumption)) | (with_reducible refine grow_base ?_ (by assumption))))
    have HT := Lib.hid (HT.out.below hs10)
    clear hs10
    have hw10 : Below w.heap.size w u10 := (by repeat (first | (with_reducible exact grow_refl _) | (with_reducible assumption) | (with_reducible refine grow_alloc ?_ _) | (with_reducible refine grow_set ?_ (by first | exact Nat.le_refl _ | (simp; done) | (simp; omega) | omega) _) | (with_reducible refine grow_drewN ?_ _) | (with_reducible refine grow_drew ?_) | (with_reducible refine grow_step ?_ (by assumption)) | (with_reducible refine grow_base ?_ (by assumption))))
    clear q0 q1 l0 l1
    go_wp2_with fail
    refine (HP.out _ (HG.out.below (by repeat (first | (with_reducible exact grow_refl _) | (with_reducible assumption) | (with_reducible refine grow_alloc ?_ _) | (with_reducible refine grow_set ?_ (by first | exact Nat.le_refl _ | (simp; done) | (simp; omega) | omega) _) | (with_reducible refine grow_drewN ?_ _) | (with_reducible refine grow_drew ?_) | (with_reducible refine grow_step ?_ (by assumption)) | (with_reducible refine grow_base ?_ (by assumption)))))).mono ?_
    rintro e u11 ⟨rfl, hb11⟩
    have HW := Lib.hid ((Box.new u10 31 #[.string pn, .int .i64 pv, .string pc]).below hb11)
    have hw11 : Below w.heap.size w u11 := (by repeat (first | (with_reducible exact grow_refl _) | (with_reducible assumption) | (with_reducible refine grow_alloc ?_ _) | (with_reducible refine grow_set ?_ (by first | exact Nat.le_refl _ | (simp; done) | (simp; omega) | omega) _) | (with_reducible refine grow_drewN ?_ _) | (with_reducible refine grow_drew ?_) | (with_reducible refine grow_step ?_ (by assumption)) | (with_reducible refine grow_base ?_ (by assumption))))
    go_wp2_with fail
    refine (error_same pE _ (HD.out.below (by repeat (first | (with_reducible exact grow_refl _) | (with_reducible assumption) | (with_reducible refine grow_alloc ?_ _) | (with_reducible refine grow_set ?_ (by first | exact Nat.le_refl _ | (simp; done) | (simp; omega) | omega) _) | (with_reducible refine grow_drewN ?_ _) | (with_reducible refine grow_drew ?_) | (with_reducible refine grow_step ?_ (by assumption)) | (with_reducible refine grow_base ?_ (by assumption))))) IP.out).mono ?_
    rintro e u12 ⟨rfl, hb12⟩
    have HW2 := Lib.hid ((HW.out.below (grow_alloc (grow_refl _) _)).below hb12)
    have HZ := Lib.hid ((Box.new u11 31 #[.string pn, .int .i64 pv, .string pc]).below hb12)
    have hw12 : Below w.heap.size w u12 := (by repeat (first | (with_reducible exact grow_refl _) | (with_reducible assumption) | (with_reducible refine grow_alloc ?_ _) | (with_reducible refine grow_set ?_ (by first | exact Nat.le_refl _ | (simp; done) | (simp; omega) | omega) _) | (with_reducible refine grow_drewN ?_ _) | (with_reducible refine grow_drew ?_) | (with_reducible refine grow_step ?_ (by assumption)) | (with_reducible refine grow_base ?_ (by assumption))))
    have y0 := HW2.out.cell
    have y1 := HW2.out.lt
    have y2 := HZ.out.cell
    have y3 := HZ.out.lt
    have y4 := fun w => eqIm pn pv pc (by have := ZP.out.1; omega) (by have := ZP.out.2; omega) VP.out w
    go_wp2_with fail
    go_ret
    exact ⟨by first | rfl | (show Ending.returned (.bool (!decide (v1 < v0))) = _; rw [show decide (v1 < v0) = false from decide_eq_false (by omega)]; rfl), (by repeat (first | (with_reducible exact grow_refl _) | (with_reducible assumption) | (with_reducible refine grow_alloc ?_ _) | (with_reducible refine grow_set ?_ (by first | exact Nat.le_refl _ | (simp; done) | (simp; omega) | omega) _) | (with_reducible refine grow_drewN ?_ _) | (with_reducible refine grow_drew ?_) | (with_reducible refine grow_step ?_ (by assumption)) | (with_reducible refine grow_base ?_ (by assumption))))⟩
  subst h0
  obtain ⟨F, hF⟩ : ∃ F, imgE n1 v1 c1 = F := ⟨_, rfl⟩
  have IF : Hid (I64 F) := Lib.hid (by rw [← hF]; exact imgE_bd _ _ _)
  have HF := Lib.hid hF
  clear hF
  by_cases h1 : F = 0
  rotate_left
  · have H1 := Lib.hid h1
    have t1 : (F == 0) = false := by simp [h1]
    clear h1
    go_enter Tryd.func5, Tryd.ntmps5
    go_wp2_with fail
    refine (rImage_E HN0.out HC0.out HE.out _).mono ?_
    rintro e u1 ⟨rfl, hb1⟩
    have HT := Lib.hid ((Two2.new w n0 v0 c0 n1 v1 c1).below hb1)
    have hw1 : Below w.heap.size w u1 := (by repeat (first | (with_reducible exact grow_refl _) | (with_reducible assumption) | (with_reducible refine grow_alloc ?_ _) | (with_reducible refine grow_set ?_ (by first | exact Nat.le_refl _ | (simp; done) | (simp; omega) | omega) _) | (with_reducible refine grow_drewN ?_ _) | (with_reducible refine grow_drew ?_) | (with_reducible refine grow_step ?_ (by assumption)) | (with_reducible refine grow_base ?_ (by assumption))))
    have q0 := HT.out.1.cell
    have q1 := HT.out.2.cell
    have l0 := HT.out.1.lt
    have l1 := HT.out.2.lt
    go_wp2_with fail
    refine (imgCheck_E HN0.out HC0.out HE.out _).mono ?_
    rintro e u2 ⟨rfl, hb2⟩
    have hs2 : Below u1.heap.size u1 u2 := (by repeat (first | (with_reducible exact grow_refl _) | (with_reducible assumption) | (with_reducible refine grow_alloc ?_ _) | (with_reducible refine grow_set ?_ (by first | exact Nat.le_refl _ | (simp; done) | (simp; omega) | omega) _) | (with_reducible refine grow_drewN ?_ _) | (with_reducible refine grow_drew ?_) | (with_reducible refine grow_step ?_ (by assumption)) | (with_reducible refine grow_base ?_ (by assumption))))
    have HT := Lib.hid (HT.out.below hs2)
    clear hs2
    have hw2 : Below w.heap.size w u2 := (by repeat (first | (with_reducible exact grow_refl _) | (with_reducible assumption) | (with_reducible refine grow_alloc ?_ _) | (with_reducible refine grow_set ?_ (by first | exact Nat.le_refl _ | (simp; done) | (simp; omega) | omega) _) | (with_reducible refine grow_drewN ?_ _) | (with_reducible refine grow_drew ?_) | (with_reducible refine grow_step ?_ (by assumption)) | (with_reducible refine grow_base ?_ (by assumption))))
    clear q0 q1 l0 l1
    go_wp2_with fail
    refine (error_same 0 _ (HD.out.below (by repeat (first | (with_reducible exact grow_refl _) | (with_reducible assumption) | (with_reducible refine grow_alloc ?_ _) | (with_reducible refine grow_set ?_ (by first | exact Nat.le_refl _ | (simp; done) | (simp; omega) | omega) _) | (with_reducible refine grow_drewN ?_ _) | (with_reducible refine grow_drew ?_) | (with_reducible refine grow_step ?_ (by assumption)) | (with_reducible refine grow_base ?_ (by assumption))))) I0.out).mono ?_
    rintro e u3 ⟨rfl, hb3⟩
    have hs3 : Below u2.heap.size u2 u3 := (by repeat (first | (with_reducible exact grow_refl _) | (with_reducible assumption) | (with_reducible refine grow_alloc ?_ _) | (with_reducible refine grow_set ?_ (by first | exact Nat.le_refl _ | (simp; done) | (simp; omega) | omega) _) | (with_reducible refine grow_drewN ?_ _) | (with_reducible refine grow_drew ?_) | (with_reducible refine grow_step ?_ (by assumption)) | (with_reducible refine grow_base ?_ (by assumption))))
    have HT := Lib.hid (HT.out.below hs3)
    clear hs3
    have hw3 : Below w.heap.size w u3 := (by repeat (first | (with_reducible exact grow_refl _) | (with_reducible assumption) | (with_reducible refine grow_alloc ?_ _) | (with_reducible refine grow_set ?_ (by first | exact Nat.le_refl _ | (simp; done) | (simp; omega) | omega) _) | (with_reducible refine grow_drewN ?_ _) | (with_reducible refine grow_drew ?_) | (with_reducible refine grow_step ?_ (by assumption)) | (with_reducible refine grow_base ?_ (by assumption))))
    have q0 := HT.out.1.cell
    have q1 := HT.out.2.cell
    have l0 := HT.out.1.lt
    have l1 := HT.out.2.lt
    go_wp2_with fail
    refine (rLine_yes HE.out _).mono ?_
    rintro e u4 ⟨rfl, hb4⟩
    have hs4 : Below u3.heap.size u3 u4 := (by repeat (first | (with_reducible exact grow_refl _) | (with_reducible assumption) | (with_reducible refine grow_alloc ?_ _) | (with_reducible refine grow_set ?_ (by first | exact Nat.le_refl _ | (simp; done) | (simp; omega) | omega) _) | (with_reducible refine grow_drewN ?_ _) | (with_reducible refine grow_drew ?_) | (with_reducible refine grow_step ?_ (by assumption)) | (with_reducible refine grow_base ?_ (by assumption))))
    have HT := Lib.hid (HT.out.below hs4)
    clear hs4
    have hw4 : Below w.heap.size w u4 := (by repeat (first | (with_reducible exact grow_refl _) | (with_reducible assumption) | (with_reducible refine grow_alloc ?_ _) | (with_reducible refine grow_set ?_ (by first | exact Nat.le_refl _ | (simp; done) | (simp; omega) | omega) _) | (with_reducible refine grow_drewN ?_ _) | (with_reducible refine grow_drew ?_) | (with_reducible refine grow_step ?_ (by assumption)) | (with_reducible refine grow_base ?_ (by assumption))))
    clear q0 q1 l0 l1
    have q0 := HT.out.1.cell
    have q1 := HT.out.2.cell
    have l0 := HT.out.1.lt
    have l1 := HT.out.2.lt
    go_wp2_with fail
    refine (rText_line HE.out _).mono ?_
    rintro e u5 ⟨rfl, hb5⟩
    have hs5 : Below u4.heap.size u4 u5 := (by repeat (first | (with_reducible exact grow_refl _) | (with_reducible assumption) | (with_reducible refine grow_alloc ?_ _) | (with_reducible refine grow_set ?_ (by first | exact Nat.le_refl _ | (simp; done) | (simp; omega) | omega) _) | (with_reducible refine grow_drewN ?_ _) | (with_reducible refine grow_drew ?_) | (with_reducible refine grow_step ?_ (by assumption)) | (with_reducible refine grow_base ?_ (by assumption))))
    have HT := Lib.hid (HT.out.below hs5)
    clear hs5
    have hw5 : Below w.heap.size w u5 := (by repeat (first | (with_reducible exact grow_refl _) | (with_reducible assumption) | (with_reducible refine grow_alloc ?_ _) | (with_reducible refine grow_set ?_ (by first | exact Nat.le_refl _ | (simp; done) | (simp; omega) | omega) _) | (with_reducible refine grow_drewN ?_ _) | (with_reducible refine grow_drew ?_) | (with_reducible refine grow_step ?_ (by assumption)) | (with_reducible refine grow_base ?_ (by assumption))))
    clear q0 q1 l0 l1
    have q0 := HT.out.1.cell
    have q1 := HT.out.2.cell
    have l0 := HT.out.1.lt
    have l1 := HT.out.2.lt
    go_wp2_with fail
    refine (imgMeasure_yes n0 v0 c0 _ HE.out (HG.out.below (by repeat (first | (with_reducible exact grow_refl _) | (with_reducible assumption) | (with_reducible refine grow_alloc ?_ _) | (with_reducible refine grow_set ?_ (by first | exact Nat.le_refl _ | (simp; done) | (simp; omega) | omega) _) | (with_reducible refine grow_drewN ?_ _) | (with_reducible refine grow_drew ?_) | (with_reducible refine grow_step ?_ (by assumption)) | (with_reducible refine grow_base ?_ (by assumption))))).1).mono ?_
    rintro e u6 ⟨rfl, hb6⟩
    have hs6 : Below u5.heap.size u5 u6 := (by repeat (first | (with_reducible exact grow_refl _) | (with_reducible assumption) | (with_reducible refine grow_alloc ?_ _) | (with_reducible refine grow_set ?_ (by first | exact Nat.le_refl _ | (simp; done) | (simp; omega) | omega) _) | (with_reducible refine grow_drewN ?_ _) | (with_reducible refine grow_drew ?_) | (with_reducible refine grow_step ?_ (by assumption)) | (with_reducible refine grow_base ?_ (by assumption))))
    have HT := Lib.hid (HT.out.below hs6)
    clear hs6
    have hw6 : Below w.heap.size w u6 := (by repeat (first | (with_reducible exact grow_refl _) | (with_reducible assumption) | (with_reducible refine grow_alloc ?_ _) | (with_reducible refine grow_set ?_ (by first | exact Nat.le_refl _ | (simp; done) | (simp; omega) | omega) _) | (with_reducible refine grow_drewN ?_ _) | (with_reducible refine grow_drew ?_) | (with_reducible refine grow_step ?_ (by assumption)) | (with_reducible refine grow_base ?_ (by assumption))))
    clear q0 q1 l0 l1
    go_wp2_with fail
    refine (error_same 0 _ (HD.out.below (by repeat (first | (with_reducible exact grow_refl _) | (with_reducible assumption) | (with_reducible refine grow_alloc ?_ _) | (with_reducible refine grow_set ?_ (by first | exact Nat.le_refl _ | (simp; done) | (simp; omega) | omega) _) | (with_reducible refine grow_drewN ?_ _) | (with_reducible refine grow_drew ?_) | (with_reducible refine grow_step ?_ (by assumption)) | (with_reducible refine grow_base ?_ (by assumption))))) I0.out).mono ?_
    rintro e u7 ⟨rfl, hb7⟩
    have hs7 : Below u6.heap.size u6 u7 := (by repeat (first | (with_reducible exact grow_refl _) | (with_reducible assumption) | (with_reducible refine grow_alloc ?_ _) | (with_reducible refine grow_set ?_ (by first | exact Nat.le_refl _ | (simp; done) | (simp; omega) | omega) _) | (with_reducible refine grow_drewN ?_ _) | (with_reducible refine grow_drew ?_) | (with_reducible refine grow_step ?_ (by assumption)) | (with_reducible refine grow_base ?_ (by assumption))))
    have HT := Lib.hid (HT.out.below hs7)
    clear hs7
    have hw7 : Below w.heap.size w u7 := (by repeat (first | (with_reducible exact grow_refl _) | (with_reducible assumption) | (with_reducible refine grow_alloc ?_ _) | (with_reducible refine grow_set ?_ (by first | exact Nat.le_refl _ | (simp; done) | (simp; omega) | omega) _) | (with_reducible refine grow_drewN ?_ _) | (with_reducible refine grow_drew ?_) | (with_reducible refine grow_step ?_ (by assumption)) | (with_reducible refine grow_base ?_ (by assumption))))
    have q0 := HT.out.1.cell
    have q1 := HT.out.2.cell
    have l0 := HT.out.1.lt
    have l1 := HT.out.2.lt
    go_wp2_with fail
    refine (imgPrint_yes n0 v0 c0 _ HE.out (HG.out.below (by repeat (first | (with_reducible exact grow_refl _) | (with_reducible assumption) | (with_reducible refine grow_alloc ?_ _) | (with_reducible refine grow_set ?_ (by first | exact Nat.le_refl _ | (simp; done) | (simp; omega) | omega) _) | (with_reducible refine grow_drewN ?_ _) | (with_reducible refine grow_drew ?_) | (with_reducible refine grow_step ?_ (by assumption)) | (with_reducible refine grow_base ?_ (by assumption))))).1).mono ?_
    rintro e u8 ⟨rfl, hb8⟩
    have hs8 : Below u7.heap.size u7 u8 := (by repeat (first | (with_reducible exact grow_refl _) | (with_reducible assumption) | (with_reducible refine grow_alloc ?_ _) | (with_reducible refine grow_set ?_ (by first | exact Nat.le_refl _ | (simp; done) | (simp; omega) | omega) _) | (with_reducible refine grow_drewN ?_ _) | (with_reducible refine grow_drew ?_) | (with_reducible refine grow_step ?_ (by assumption)) | (with_reducible refine grow_base ?_ (by assumption))))
    have HT := Lib.hid (HT.out.below hs8)
    clear hs8
    have hw8 : Below w.heap.size w u8 := (by repeat (first | (with_reducible exact grow_refl _) | (with_reducible assumption) | (with_reducible refine grow_alloc ?_ _) | (with_reducible refine grow_set ?_ (by first | exact Nat.le_refl _ | (simp; done) | (simp; omega) | omega) _) | (with_reducible refine grow_drewN ?_ _) | (with_reducible refine grow_drew ?_) | (with_reducible refine grow_step ?_ (by assumption)) | (with_reducible refine grow_base ?_ (by assumption))))
    clear q0 q1 l0 l1
    go_wp2_with fail
    refine (error_same 0 _ (HD.out.below (by repeat (first | (with_reducible exact grow_refl _) | (with_reducible assumption) | (with_reducible refine grow_alloc ?_ _) | (with_reducible refine grow_set ?_ (by first | exact Nat.le_refl _ | (simp; done) | (simp; omega) | omega) _) | (with_reducible refine grow_drewN ?_ _) | (with_reducible refine grow_drew ?_) | (with_reducible refine grow_step ?_ (by assumption)) | (with_reducible refine grow_base ?_ (by assumption))))) I0.out).mono ?_
    rintro e u9 ⟨rfl, hb9⟩
    have hs9 : Below u8.heap.size u8 u9 := (by repeat (first | (with_reducible exact grow_refl _) | (with_reducible assumption) | (with_reducible refine grow_alloc ?_ _) | (with_reducible refine grow_set ?_ (by first | exact Nat.le_refl _ | (simp; done) | (simp; omega) | omega) _) | (with_reducible refine grow_drewN ?_ _) | (with_reducible refine grow_drew ?_) | (with_reducible refine grow_step ?_ (by assumption)) | (with_reducible refine grow_base ?_ (by assumption))))
    have HT := Lib.hid (HT.out.below hs9)
    clear hs9
    have hw9 : Below w.heap.size w u9 := (by repeat (first | (with_reducible exact grow_refl _) | (with_reducible assumption) | (with_reducible refine grow_alloc ?_ _) | (with_reducible refine grow_set ?_ (by first | exact Nat.le_refl _ | (simp; done) | (simp; omega) | omega) _) | (with_reducible refine grow_drewN ?_ _) | (with_reducible refine grow_drew ?_) | (with_reducible refine grow_step ?_ (by assumption)) | (with_reducible refine grow_base ?_ (by assumption))))
    have q0 := HT.out.1.cell
    have q1 := HT.out.2.cell
    have l0 := HT.out.1.lt
    have l1 := HT.out.2.lt
    go_wp2_with fail
    refine (rImage_E HN1.out HC1.out HF.out _).mono ?_
    rintro e u10 ⟨rfl, hb10⟩
    have hs10 : Below u9.heap.size u9 u10 := (by repeat (first | (with_reducible exact grow_refl _) | (with_reducible assumption) | (with_reducible refine grow_alloc ?_ _) | (with_reducible refine grow_set ?_ (by first | exact Nat.le_refl _ | (simp; done) | (simp; omega) | omega) _) | (with_reducible refine grow_drewN ?_ _) | (with_reducible refine grow_drew ?_) | (with_reducible refine grow_step ?_ (by assumption)) | (with_reducible refine grow_base ?_ (by assumption))))
    have HT := Lib.hid (HT.out.below hs10)
    clear hs10
    have hw10 : Below w.heap.size w u10 := (by repeat (first | (with_reducible exact grow_refl _) | (with_reducible assumption) | (with_reducible refine grow_alloc ?_ _) | (with_reducible refine grow_set ?_ (by first | exact Nat.le_refl _ | (simp; done) | (simp; omega) | omega) _) | (with_reducible refine grow_drewN ?_ _) | (with_reducible refine grow_drew ?_) | (with_reducible refine grow_step ?_ (by assumption)) | (with_reducible refine grow_base ?_ (by assumption))))
    clear q0 q1 l0 l1
    have q0 := HT.out.1.cell
    have q1 := HT.out.2.cell
    have l0 := HT.out.1.lt
    have l1 := HT.out.2.lt
    go_wp2_with fail
    refine (newer_gen HN0.out HC0.out HN1.out HC1.out false F (newB_fault (newE_second HE.out HF.out H1.out) H1.out) (newE_second HE.out HF.out H1.out) _).mono ?_
    rintro e u11 ⟨rfl, hb11⟩
    have hs11 : Below u10.heap.size u10 u11 := (by repeat (first | (with_reducible exact grow_refl _) | (with_reducible assumption) | (with_reducible refine grow_alloc ?_ _) | (with_reducible refine grow_set ?_ (by first | exact Nat.le_refl _ | (simp; done) | (simp; omega) | omega) _) | (with_reducible refine grow_drewN ?_ _) | (with_reducible refine grow_drew ?_) | (with_reducible refine grow_step ?_ (by assumption)) | (with_reducible refine grow_base ?_ (by assumption))))
    have HT := Lib.hid (HT.out.below hs11)
    clear hs11
    have hw11 : Below w.heap.size w u11 := (by repeat (first | (with_reducible exact grow_refl _) | (with_reducible assumption) | (with_reducible refine grow_alloc ?_ _) | (with_reducible refine grow_set ?_ (by first | exact Nat.le_refl _ | (simp; done) | (simp; omega) | omega) _) | (with_reducible refine grow_drewN ?_ _) | (with_reducible refine grow_drew ?_) | (with_reducible refine grow_step ?_ (by assumption)) | (with_reducible refine grow_base ?_ (by assumption))))
    clear q0 q1 l0 l1
    go_wp2_with fail
    refine (error_same F _ (HD.out.below (by repeat (first | (with_reducible exact grow_refl _) | (with_reducible assumption) | (with_reducible refine grow_alloc ?_ _) | (with_reducible refine grow_set ?_ (by first | exact Nat.le_refl _ | (simp; done) | (simp; omega) | omega) _) | (with_reducible refine grow_drewN ?_ _) | (with_reducible refine grow_drew ?_) | (with_reducible refine grow_step ?_ (by assumption)) | (with_reducible refine grow_base ?_ (by assumption))))) IF.out).mono ?_
    rintro e u12 ⟨rfl, hb12⟩
    have hs12 : Below u11.heap.size u11 u12 := (by repeat (first | (with_reducible exact grow_refl _) | (with_reducible assumption) | (with_reducible refine grow_alloc ?_ _) | (with_reducible refine grow_set ?_ (by first | exact Nat.le_refl _ | (simp; done) | (simp; omega) | omega) _) | (with_reducible refine grow_drewN ?_ _) | (with_reducible refine grow_drew ?_) | (with_reducible refine grow_step ?_ (by assumption)) | (with_reducible refine grow_base ?_ (by assumption))))
    have HT := Lib.hid (HT.out.below hs12)
    clear hs12
    have hw12 : Below w.heap.size w u12 := (by repeat (first | (with_reducible exact grow_refl _) | (with_reducible assumption) | (with_reducible refine grow_alloc ?_ _) | (with_reducible refine grow_set ?_ (by first | exact Nat.le_refl _ | (simp; done) | (simp; omega) | omega) _) | (with_reducible refine grow_drewN ?_ _) | (with_reducible refine grow_drew ?_) | (with_reducible refine grow_step ?_ (by assumption)) | (with_reducible refine grow_base ?_ (by assumption))))
    have q0 := HT.out.1.cell
    have q1 := HT.out.2.cell
    have l0 := HT.out.1.lt
    have l1 := HT.out.2.lt
    go_wp2_with fail
    refine (HRD.out _).mono ?_
    rintro e u13 ⟨rfl, hb13⟩
    have hs13 : Below u12.heap.size u12 u13 := (by repeat (first | (with_reducible exact grow_refl _) | (with_reducible assumption) | (with_reducible refine grow_alloc ?_ _) | (with_reducible refine grow_set ?_ (by first | exact Nat.le_refl _ | (simp; done) | (simp; omega) | omega) _) | (with_reducible refine grow_drewN ?_ _) | (with_reducible refine grow_drew ?_) | (with_reducible refine grow_step ?_ (by assumption)) | (with_reducible refine grow_base ?_ (by assumption))))
    have HT := Lib.hid (HT.out.below hs13)
    clear hs13
    have hw13 : Below w.heap.size w u13 := (by repeat (first | (with_reducible exact grow_refl _) | (with_reducible assumption) | (with_reducible refine grow_alloc ?_ _) | (with_reducible refine grow_set ?_ (by first | exact Nat.le_refl _ | (simp; done) | (simp; omega) | omega) _) | (with_reducible refine grow_drewN ?_ _) | (with_reducible refine grow_drew ?_) | (with_reducible refine grow_step ?_ (by assumption)) | (with_reducible refine grow_base ?_ (by assumption))))
    clear q0 q1 l0 l1
    go_wp2_with fail
    refine (HP.out _ (HG.out.below (by repeat (first | (with_reducible exact grow_refl _) | (with_reducible assumption) | (with_reducible refine grow_alloc ?_ _) | (with_reducible refine grow_set ?_ (by first | exact Nat.le_refl _ | (simp; done) | (simp; omega) | omega) _) | (with_reducible refine grow_drewN ?_ _) | (with_reducible refine grow_drew ?_) | (with_reducible refine grow_step ?_ (by assumption)) | (with_reducible refine grow_base ?_ (by assumption)))))).mono ?_
    rintro e u14 ⟨rfl, hb14⟩
    have HW := Lib.hid ((Box.new u13 31 #[.string pn, .int .i64 pv, .string pc]).below hb14)
    have hw14 : Below w.heap.size w u14 := (by repeat (first | (with_reducible exact grow_refl _) | (with_reducible assumption) | (with_reducible refine grow_alloc ?_ _) | (with_reducible refine grow_set ?_ (by first | exact Nat.le_refl _ | (simp; done) | (simp; omega) | omega) _) | (with_reducible refine grow_drewN ?_ _) | (with_reducible refine grow_drew ?_) | (with_reducible refine grow_step ?_ (by assumption)) | (with_reducible refine grow_base ?_ (by assumption))))
    go_wp2_with fail
    refine (error_same pE _ (HD.out.below (by repeat (first | (with_reducible exact grow_refl _) | (with_reducible assumption) | (with_reducible refine grow_alloc ?_ _) | (with_reducible refine grow_set ?_ (by first | exact Nat.le_refl _ | (simp; done) | (simp; omega) | omega) _) | (with_reducible refine grow_drewN ?_ _) | (with_reducible refine grow_drew ?_) | (with_reducible refine grow_step ?_ (by assumption)) | (with_reducible refine grow_base ?_ (by assumption))))) IP.out).mono ?_
    rintro e u15 ⟨rfl, hb15⟩
    have HW2 := Lib.hid ((HW.out.below (grow_alloc (grow_refl _) _)).below hb15)
    have HZ := Lib.hid ((Box.new u14 31 #[.string pn, .int .i64 pv, .string pc]).below hb15)
    have hw15 : Below w.heap.size w u15 := (by repeat (first | (with_reducible exact grow_refl _) | (with_reducible assumption) | (with_reducible refine grow_alloc ?_ _) | (with_reducible refine grow_set ?_ (by first | exact Nat.le_refl _ | (simp; done) | (simp; omega) | omega) _) | (with_reducible refine grow_drewN ?_ _) | (with_reducible refine grow_drew ?_) | (with_reducible refine grow_step ?_ (by assumption)) | (with_reducible refine grow_base ?_ (by assumption))))
    have y0 := HW2.out.cell
    have y1 := HW2.out.lt
    have y2 := HZ.out.cell
    have y3 := HZ.out.lt
    have y4 := fun w => eqIm pn pv pc (by have := ZP.out.1; omega) (by have := ZP.out.2; omega) VP.out w
    go_wp2_with fail
    go_ret
    exact ⟨by first | rfl | (show Ending.returned (.bool (!decide (v1 < v0))) = _; rw [show decide (v1 < v0) = false from decide_eq_false (by omega)]; rfl), (by repeat (first | (with_reducible exact grow_refl _) | (with_reducible assumption) | (with_reducible refine grow_alloc ?_ _) | (with_reducible refine grow_set ?_ (by first | exact Nat.le_refl _ | (simp; done) | (simp; omega) | omega) _) | (with_reducible refine grow_drewN ?_ _) | (with_reducible refine grow_drew ?_) | (with_reducible refine grow_step ?_ (by assumption)) | (with_reducible refine grow_base ?_ (by assumption))))⟩
  subst h1
  by_cases h2 : n0.data.toList = n1.data.toList
  rotate_left
  · have H2 := Lib.hid h2
    have t2 : (n0.toList == n1.toList) = false := by rw [bytes_list, bytes_list]; simpa using h2
    clear h2
    go_enter Tryd.func5, Tryd.ntmps5
    go_wp2_with fail
    refine (rImage_E HN0.out HC0.out HE.out _).mono ?_
    rintro e u1 ⟨rfl, hb1⟩
    have HT := Lib.hid ((Two2.new w n0 v0 c0 n1 v1 c1).below hb1)
    have hw1 : Below w.heap.size w u1 := (by repeat (first | (with_reducible exact grow_refl _) | (with_reducible assumption) | (with_reducible refine grow_alloc ?_ _) | (with_reducible refine grow_set ?_ (by first | exact Nat.le_refl _ | (simp; done) | (simp; omega) | omega) _) | (with_reducible refine grow_drewN ?_ _) | (with_reducible refine grow_drew ?_) | (with_reducible refine grow_step ?_ (by assumption)) | (with_reducible refine grow_base ?_ (by assumption))))
    have q0 := HT.out.1.cell
    have q1 := HT.out.2.cell
    have l0 := HT.out.1.lt
    have l1 := HT.out.2.lt
    go_wp2_with fail
    refine (imgCheck_E HN0.out HC0.out HE.out _).mono ?_
    rintro e u2 ⟨rfl, hb2⟩
    have hs2 : Below u1.heap.size u1 u2 := (by repeat (first | (with_reducible exact grow_refl _) | (with_reducible assumption) | (with_reducible refine grow_alloc ?_ _) | (with_reducible refine grow_set ?_ (by first | exact Nat.le_refl _ | (simp; done) | (simp; omega) | omega) _) | (with_reducible refine grow_drewN ?_ _) | (with_reducible refine grow_drew ?_) | (with_reducible refine grow_step ?_ (by assumption)) | (with_reducible refine grow_base ?_ (by assumption))))
    have HT := Lib.hid (HT.out.below hs2)
    clear hs2
    have hw2 : Below w.heap.size w u2 := (by repeat (first | (with_reducible exact grow_refl _) | (with_reducible assumption) | (with_reducible refine grow_alloc ?_ _) | (with_reducible refine grow_set ?_ (by first | exact Nat.le_refl _ | (simp; done) | (simp; omega) | omega) _) | (with_reducible refine grow_drewN ?_ _) | (with_reducible refine grow_drew ?_) | (with_reducible refine grow_step ?_ (by assumption)) | (with_reducible refine grow_base ?_ (by assumption))))
    clear q0 q1 l0 l1
    go_wp2_with fail
    refine (error_same 0 _ (HD.out.below (by repeat (first | (with_reducible exact grow_refl _) | (with_reducible assumption) | (with_reducible refine grow_alloc ?_ _) | (with_reducible refine grow_set ?_ (by first | exact Nat.le_refl _ | (simp; done) | (simp; omega) | omega) _) | (with_reducible refine grow_drewN ?_ _) | (with_reducible refine grow_drew ?_) | (with_reducible refine grow_step ?_ (by assumption)) | (with_reducible refine grow_base ?_ (by assumption))))) I0.out).mono ?_
    rintro e u3 ⟨rfl, hb3⟩
    have hs3 : Below u2.heap.size u2 u3 := (by repeat (first | (with_reducible exact grow_refl _) | (with_reducible assumption) | (with_reducible refine grow_alloc ?_ _) | (with_reducible refine grow_set ?_ (by first | exact Nat.le_refl _ | (simp; done) | (simp; omega) | omega) _) | (with_reducible refine grow_drewN ?_ _) | (with_reducible refine grow_drew ?_) | (with_reducible refine grow_step ?_ (by assumption)) | (with_reducible refine grow_base ?_ (by assumption))))
    have HT := Lib.hid (HT.out.below hs3)
    clear hs3
    have hw3 : Below w.heap.size w u3 := (by repeat (first | (with_reducible exact grow_refl _) | (with_reducible assumption) | (with_reducible refine grow_alloc ?_ _) | (with_reducible refine grow_set ?_ (by first | exact Nat.le_refl _ | (simp; done) | (simp; omega) | omega) _) | (with_reducible refine grow_drewN ?_ _) | (with_reducible refine grow_drew ?_) | (with_reducible refine grow_step ?_ (by assumption)) | (with_reducible refine grow_base ?_ (by assumption))))
    have q0 := HT.out.1.cell
    have q1 := HT.out.2.cell
    have l0 := HT.out.1.lt
    have l1 := HT.out.2.lt
    go_wp2_with fail
    refine (rLine_yes HE.out _).mono ?_
    rintro e u4 ⟨rfl, hb4⟩
    have hs4 : Below u3.heap.size u3 u4 := (by repeat (first | (with_reducible exact grow_refl _) | (with_reducible assumption) | (with_reducible refine grow_alloc ?_ _) | (with_reducible refine grow_set ?_ (by first | exact Nat.le_refl _ | (simp; done) | (simp; omega) | omega) _) | (with_reducible refine grow_drewN ?_ _) | (with_reducible refine grow_drew ?_) | (with_reducible refine grow_step ?_ (by assumption)) | (with_reducible refine grow_base ?_ (by assumption))))
    have HT := Lib.hid (HT.out.below hs4)
    clear hs4
    have hw4 : Below w.heap.size w u4 := (by repeat (first | (with_reducible exact grow_refl _) | (with_reducible assumption) | (with_reducible refine grow_alloc ?_ _) | (with_reducible refine grow_set ?_ (by first | exact Nat.le_refl _ | (simp; done) | (simp; omega) | omega) _) | (with_reducible refine grow_drewN ?_ _) | (with_reducible refine grow_drew ?_) | (with_reducible refine grow_step ?_ (by assumption)) | (with_reducible refine grow_base ?_ (by assumption))))
    clear q0 q1 l0 l1
    have q0 := HT.out.1.cell
    have q1 := HT.out.2.cell
    have l0 := HT.out.1.lt
    have l1 := HT.out.2.lt
    go_wp2_with fail
    refine (rText_line HE.out _).mono ?_
    rintro e u5 ⟨rfl, hb5⟩
    have hs5 : Below u4.heap.size u4 u5 := (by repeat (first | (with_reducible exact grow_refl _) | (with_reducible assumption) | (with_reducible refine grow_alloc ?_ _) | (with_reducible refine grow_set ?_ (by first | exact Nat.le_refl _ | (simp; done) | (simp; omega) | omega) _) | (with_reducible refine grow_drewN ?_ _) | (with_reducible refine grow_drew ?_) | (with_reducible refine grow_step ?_ (by assumption)) | (with_reducible refine grow_base ?_ (by assumption))))
    have HT := Lib.hid (HT.out.below hs5)
    clear hs5
    have hw5 : Below w.heap.size w u5 := (by repeat (first | (with_reducible exact grow_refl _) | (with_reducible assumption) | (with_reducible refine grow_alloc ?_ _) | (with_reducible refine grow_set ?_ (by first | exact Nat.le_refl _ | (simp; done) | (simp; omega) | omega) _) | (with_reducible refine grow_drewN ?_ _) | (with_reducible refine grow_drew ?_) | (with_reducible refine grow_step ?_ (by assumption)) | (with_reducible refine grow_base ?_ (by assumption))))
    clear q0 q1 l0 l1
    have q0 := HT.out.1.cell
    have q1 := HT.out.2.cell
    have l0 := HT.out.1.lt
    have l1 := HT.out.2.lt
    go_wp2_with fail
    refine (imgMeasure_yes n0 v0 c0 _ HE.out (HG.out.below (by repeat (first | (with_reducible exact grow_refl _) | (with_reducible assumption) | (with_reducible refine grow_alloc ?_ _) | (with_reducible refine grow_set ?_ (by first | exact Nat.le_refl _ | (simp; done) | (simp; omega) | omega) _) | (with_reducible refine grow_drewN ?_ _) | (with_reducible refine grow_drew ?_) | (with_reducible refine grow_step ?_ (by assumption)) | (with_reducible refine grow_base ?_ (by assumption))))).1).mono ?_
    rintro e u6 ⟨rfl, hb6⟩
    have hs6 : Below u5.heap.size u5 u6 := (by repeat (first | (with_reducible exact grow_refl _) | (with_reducible assumption) | (with_reducible refine grow_alloc ?_ _) | (with_reducible refine grow_set ?_ (by first | exact Nat.le_refl _ | (simp; done) | (simp; omega) | omega) _) | (with_reducible refine grow_drewN ?_ _) | (with_reducible refine grow_drew ?_) | (with_reducible refine grow_step ?_ (by assumption)) | (with_reducible refine grow_base ?_ (by assumption))))
    have HT := Lib.hid (HT.out.below hs6)
    clear hs6
    have hw6 : Below w.heap.size w u6 := (by repeat (first | (with_reducible exact grow_refl _) | (with_reducible assumption) | (with_reducible refine grow_alloc ?_ _) | (with_reducible refine grow_set ?_ (by first | exact Nat.le_refl _ | (simp; done) | (simp; omega) | omega) _) | (with_reducible refine grow_drewN ?_ _) | (with_reducible refine grow_drew ?_) | (with_reducible refine grow_step ?_ (by assumption)) | (with_reducible refine grow_base ?_ (by assumption))))
    clear q0 q1 l0 l1
    go_wp2_with fail
    refine (error_same 0 _ (HD.out.below (by repeat (first | (with_reducible exact grow_refl _) | (with_reducible assumption) | (with_reducible refine grow_alloc ?_ _) | (with_reducible refine grow_set ?_ (by first | exact Nat.le_refl _ | (simp; done) | (simp; omega) | omega) _) | (with_reducible refine grow_drewN ?_ _) | (with_reducible refine grow_drew ?_) | (with_reducible refine grow_step ?_ (by assumption)) | (with_reducible refine grow_base ?_ (by assumption))))) I0.out).mono ?_
    rintro e u7 ⟨rfl, hb7⟩
    have hs7 : Below u6.heap.size u6 u7 := (by repeat (first | (with_reducible exact grow_refl _) | (with_reducible assumption) | (with_reducible refine grow_alloc ?_ _) | (with_reducible refine grow_set ?_ (by first | exact Nat.le_refl _ | (simp; done) | (simp; omega) | omega) _) | (with_reducible refine grow_drewN ?_ _) | (with_reducible refine grow_drew ?_) | (with_reducible refine grow_step ?_ (by assumption)) | (with_reducible refine grow_base ?_ (by assumption))))
    have HT := Lib.hid (HT.out.below hs7)
    clear hs7
    have hw7 : Below w.heap.size w u7 := (by repeat (first | (with_reducible exact grow_refl _) | (with_reducible assumption) | (with_reducible refine grow_alloc ?_ _) | (with_reducible refine grow_set ?_ (by first | exact Nat.le_refl _ | (simp; done) | (simp; omega) | omega) _) | (with_reducible refine grow_drewN ?_ _) | (with_reducible refine grow_drew ?_) | (with_reducible refine grow_step ?_ (by assumption)) | (with_reducible refine grow_base ?_ (by assumption))))
    have q0 := HT.out.1.cell
    have q1 := HT.out.2.cell
    have l0 := HT.out.1.lt
    have l1 := HT.out.2.lt
    go_wp2_with fail
    refine (imgPrint_yes n0 v0 c0 _ HE.out (HG.out.below (by repeat (first | (with_reducible exact grow_refl _) | (with_reducible assumption) | (with_reducible refine grow_alloc ?_ _) | (with_reducible refine grow_set ?_ (by first | exact Nat.le_refl _ | (simp; done) | (simp; omega) | omega) _) | (with_reducible refine grow_drewN ?_ _) | (with_reducible refine grow_drew ?_) | (with_reducible refine grow_step ?_ (by assumption)) | (with_reducible refine grow_base ?_ (by assumption))))).1).mono ?_
    rintro e u8 ⟨rfl, hb8⟩
    have hs8 : Below u7.heap.size u7 u8 := (by repeat (first | (with_reducible exact grow_refl _) | (with_reducible assumption) | (with_reducible refine grow_alloc ?_ _) | (with_reducible refine grow_set ?_ (by first | exact Nat.le_refl _ | (simp; done) | (simp; omega) | omega) _) | (with_reducible refine grow_drewN ?_ _) | (with_reducible refine grow_drew ?_) | (with_reducible refine grow_step ?_ (by assumption)) | (with_reducible refine grow_base ?_ (by assumption))))
    have HT := Lib.hid (HT.out.below hs8)
    clear hs8
    have hw8 : Below w.heap.size w u8 := (by repeat (first | (with_reducible exact grow_refl _) | (with_reducible assumption) | (with_reducible refine grow_alloc ?_ _) | (with_reducible refine grow_set ?_ (by first | exact Nat.le_refl _ | (simp; done) | (simp; omega) | omega) _) | (with_reducible refine grow_drewN ?_ _) | (with_reducible refine grow_drew ?_) | (with_reducible refine grow_step ?_ (by assumption)) | (with_reducible refine grow_base ?_ (by assumption))))
    clear q0 q1 l0 l1
    go_wp2_with fail
    refine (error_same 0 _ (HD.out.below (by repeat (first | (with_reducible exact grow_refl _) | (with_reducible assumption) | (with_reducible refine grow_alloc ?_ _) | (with_reducible refine grow_set ?_ (by first | exact Nat.le_refl _ | (simp; done) | (simp; omega) | omega) _) | (with_reducible refine grow_drewN ?_ _) | (with_reducible refine grow_drew ?_) | (with_reducible refine grow_step ?_ (by assumption)) | (with_reducible refine grow_base ?_ (by assumption))))) I0.out).mono ?_
    rintro e u9 ⟨rfl, hb9⟩
    have hs9 : Below u8.heap.size u8 u9 := (by repeat (first | (with_reducible exact grow_refl _) | (with_reducible assumption) | (with_reducible refine grow_alloc ?_ _) | (with_reducible refine grow_set ?_ (by first | exact Nat.le_refl _ | (simp; done) | (simp; omega) | omega) _) | (with_reducible refine grow_drewN ?_ _) | (with_reducible refine grow_drew ?_) | (with_reducible refine grow_step ?_ (by assumption)) | (with_reducible refine grow_base ?_ (by assumption))))
    have HT := Lib.hid (HT.out.below hs9)
    clear hs9
    have hw9 : Below w.heap.size w u9 := (by repeat (first | (with_reducible exact grow_refl _) | (with_reducible assumption) | (with_reducible refine grow_alloc ?_ _) | (with_reducible refine grow_set ?_ (by first | exact Nat.le_refl _ | (simp; done) | (simp; omega) | omega) _) | (with_reducible refine grow_drewN ?_ _) | (with_reducible refine grow_drew ?_) | (with_reducible refine grow_step ?_ (by assumption)) | (with_reducible refine grow_base ?_ (by assumption))))
    have q0 := HT.out.1.cell
    have q1 := HT.out.2.cell
    have l0 := HT.out.1.lt
    have l1 := HT.out.2.lt
    go_wp2_with fail
    refine (rImage_E HN1.out HC1.out HF.out _).mono ?_
    rintro e u10 ⟨rfl, hb10⟩
    have hs10 : Below u9.heap.size u9 u10 := (by repeat (first | (with_reducible exact grow_refl _) | (with_reducible assumption) | (with_reducible refine grow_alloc ?_ _) | (with_reducible refine grow_set ?_ (by first | exact Nat.le_refl _ | (simp; done) | (simp; omega) | omega) _) | (with_reducible refine grow_drewN ?_ _) | (with_reducible refine grow_drew ?_) | (with_reducible refine grow_step ?_ (by assumption)) | (with_reducible refine grow_base ?_ (by assumption))))
    have HT := Lib.hid (HT.out.below hs10)
    clear hs10
    have hw10 : Below w.heap.size w u10 := (by repeat (first | (with_reducible exact grow_refl _) | (with_reducible assumption) | (with_reducible refine grow_alloc ?_ _) | (with_reducible refine grow_set ?_ (by first | exact Nat.le_refl _ | (simp; done) | (simp; omega) | omega) _) | (with_reducible refine grow_drewN ?_ _) | (with_reducible refine grow_drew ?_) | (with_reducible refine grow_step ?_ (by assumption)) | (with_reducible refine grow_base ?_ (by assumption))))
    clear q0 q1 l0 l1
    have q0 := HT.out.1.cell
    have q1 := HT.out.2.cell
    have l0 := HT.out.1.lt
    have l1 := HT.out.2.lt
    go_wp2_with fail
    refine (newer_gen HN0.out HC0.out HN1.out HC1.out false 3 (newB_fault (newE_names HE.out HF.out H2.out) (by decide)) (newE_names HE.out HF.out H2.out) _).mono ?_
    rintro e u11 ⟨rfl, hb11⟩
    have hs11 : Below u10.heap.size u10 u11 := (by repeat (first | (with_reducible exact grow_refl _) | (with_reducible assumption) | (with_reducible refine grow_alloc ?_ _) | (with_reducible refine grow_set ?_ (by first | exact Nat.le_refl _ | (simp; done) | (simp; omega) | omega) _) | (with_reducible refine grow_drewN ?_ _) | (with_reducible refine grow_drew ?_) | (with_reducible refine grow_step ?_ (by assumption)) | (with_reducible refine grow_base ?_ (by assumption))))
    have HT := Lib.hid (HT.out.below hs11)
    clear hs11
    have hw11 : Below w.heap.size w u11 := (by repeat (first | (with_reducible exact grow_refl _) | (with_reducible assumption) | (with_reducible refine grow_alloc ?_ _) | (with_reducible refine grow_set ?_ (by first | exact Nat.le_refl _ | (simp; done) | (simp; omega) | omega) _) | (with_reducible refine grow_drewN ?_ _) | (with_reducible refine grow_drew ?_) | (with_reducible refine grow_step ?_ (by assumption)) | (with_reducible refine grow_base ?_ (by assumption))))
    clear q0 q1 l0 l1
    go_wp2_with fail
    refine (error_same 3 _ (HD.out.below (by repeat (first | (with_reducible exact grow_refl _) | (with_reducible assumption) | (with_reducible refine grow_alloc ?_ _) | (with_reducible refine grow_set ?_ (by first | exact Nat.le_refl _ | (simp; done) | (simp; omega) | omega) _) | (with_reducible refine grow_drewN ?_ _) | (with_reducible refine grow_drew ?_) | (with_reducible refine grow_step ?_ (by assumption)) | (with_reducible refine grow_base ?_ (by assumption))))) I3.out).mono ?_
    rintro e u12 ⟨rfl, hb12⟩
    have hs12 : Below u11.heap.size u11 u12 := (by repeat (first | (with_reducible exact grow_refl _) | (with_reducible assumption) | (with_reducible refine grow_alloc ?_ _) | (with_reducible refine grow_set ?_ (by first | exact Nat.le_refl _ | (simp; done) | (simp; omega) | omega) _) | (with_reducible refine grow_drewN ?_ _) | (with_reducible refine grow_drew ?_) | (with_reducible refine grow_step ?_ (by assumption)) | (with_reducible refine grow_base ?_ (by assumption))))
    have HT := Lib.hid (HT.out.below hs12)
    clear hs12
    have hw12 : Below w.heap.size w u12 := (by repeat (first | (with_reducible exact grow_refl _) | (with_reducible assumption) | (with_reducible refine grow_alloc ?_ _) | (with_reducible refine grow_set ?_ (by first | exact Nat.le_refl _ | (simp; done) | (simp; omega) | omega) _) | (with_reducible refine grow_drewN ?_ _) | (with_reducible refine grow_drew ?_) | (with_reducible refine grow_step ?_ (by assumption)) | (with_reducible refine grow_base ?_ (by assumption))))
    have q0 := HT.out.1.cell
    have q1 := HT.out.2.cell
    have l0 := HT.out.1.lt
    have l1 := HT.out.2.lt
    go_wp2_with fail
    refine (HRD.out _).mono ?_
    rintro e u13 ⟨rfl, hb13⟩
    have hs13 : Below u12.heap.size u12 u13 := (by repeat (first | (with_reducible exact grow_refl _) | (with_reducible assumption) | (with_reducible refine grow_alloc ?_ _) | (with_reducible refine grow_set ?_ (by first | exact Nat.le_refl _ | (simp; done) | (simp; omega) | omega) _) | (with_reducible refine grow_drewN ?_ _) | (with_reducible refine grow_drew ?_) | (with_reducible refine grow_step ?_ (by assumption)) | (with_reducible refine grow_base ?_ (by assumption))))
    have HT := Lib.hid (HT.out.below hs13)
    clear hs13
    have hw13 : Below w.heap.size w u13 := (by repeat (first | (with_reducible exact grow_refl _) | (with_reducible assumption) | (with_reducible refine grow_alloc ?_ _) | (with_reducible refine grow_set ?_ (by first | exact Nat.le_refl _ | (simp; done) | (simp; omega) | omega) _) | (with_reducible refine grow_drewN ?_ _) | (with_reducible refine grow_drew ?_) | (with_reducible refine grow_step ?_ (by assumption)) | (with_reducible refine grow_base ?_ (by assumption))))
    clear q0 q1 l0 l1
    go_wp2_with fail
    refine (HP.out _ (HG.out.below (by repeat (first | (with_reducible exact grow_refl _) | (with_reducible assumption) | (with_reducible refine grow_alloc ?_ _) | (with_reducible refine grow_set ?_ (by first | exact Nat.le_refl _ | (simp; done) | (simp; omega) | omega) _) | (with_reducible refine grow_drewN ?_ _) | (with_reducible refine grow_drew ?_) | (with_reducible refine grow_step ?_ (by assumption)) | (with_reducible refine grow_base ?_ (by assumption)))))).mono ?_
    rintro e u14 ⟨rfl, hb14⟩
    have HW := Lib.hid ((Box.new u13 31 #[.string pn, .int .i64 pv, .string pc]).below hb14)
    have hw14 : Below w.heap.size w u14 := (by repeat (first | (with_reducible exact grow_refl _) | (with_reducible assumption) | (with_reducible refine grow_alloc ?_ _) | (with_reducible refine grow_set ?_ (by first | exact Nat.le_refl _ | (simp; done) | (simp; omega) | omega) _) | (with_reducible refine grow_drewN ?_ _) | (with_reducible refine grow_drew ?_) | (with_reducible refine grow_step ?_ (by assumption)) | (with_reducible refine grow_base ?_ (by assumption))))
    go_wp2_with fail
    refine (error_same pE _ (HD.out.below (by repeat (first | (with_reducible exact grow_refl _) | (with_reducible assumption) | (with_reducible refine grow_alloc ?_ _) | (with_reducible refine grow_set ?_ (by first | exact Nat.le_refl _ | (simp; done) | (simp; omega) | omega) _) | (with_reducible refine grow_drewN ?_ _) | (with_reducible refine grow_drew ?_) | (with_reducible refine grow_step ?_ (by assumption)) | (with_reducible refine grow_base ?_ (by assumption))))) IP.out).mono ?_
    rintro e u15 ⟨rfl, hb15⟩
    have HW2 := Lib.hid ((HW.out.below (grow_alloc (grow_refl _) _)).below hb15)
    have HZ := Lib.hid ((Box.new u14 31 #[.string pn, .int .i64 pv, .string pc]).below hb15)
    have hw15 : Below w.heap.size w u15 := (by repeat (first | (with_reducible exact grow_refl _) | (with_reducible assumption) | (with_reducible refine grow_alloc ?_ _) | (with_reducible refine grow_set ?_ (by first | exact Nat.le_refl _ | (simp; done) | (simp; omega) | omega) _) | (with_reducible refine grow_drewN ?_ _) | (with_reducible refine grow_drew ?_) | (with_reducible refine grow_step ?_ (by assumption)) | (with_reducible refine grow_base ?_ (by assumption))))
    have y0 := HW2.out.cell
    have y1 := HW2.out.lt
    have y2 := HZ.out.cell
    have y3 := HZ.out.lt
    have y4 := fun w => eqIm pn pv pc (by have := ZP.out.1; omega) (by have := ZP.out.2; omega) VP.out w
    go_wp2_with fail
    go_ret
    exact ⟨by first | rfl | (show Ending.returned (.bool (!decide (v1 < v0))) = _; rw [show decide (v1 < v0) = false from decide_eq_false (by omega)]; rfl), (by repeat (first | (with_reducible exact grow_refl _) | (with_reducible assumption) | (with_reducible refine grow_alloc ?_ _) | (with_reducible refine grow_set ?_ (by first | exact Nat.le_refl _ | (simp; done) | (simp; omega) | omega) _) | (with_reducible refine grow_drewN ?_ _) | (with_reducible refine grow_drew ?_) | (with_reducible refine grow_step ?_ (by assumption)) | (with_reducible refine grow_base ?_ (by assumption))))⟩
  have HQ : Hid (newE n0 v0 c0 n1 v1 c1 = 0) := Lib.hid (newE_zero.2 ⟨HE.out, HF.out, bytes_ext h2⟩)
  have t2 : (n0.toList == n1.toList) = true := by rw [bytes_list, bytes_list]; simpa using h2
  by_cases h3 : v1 < v0
  all_goals
    first
    | (have HB : Hid (newB n0 v0 c0 n1 v1 c1 = true) := Lib.hid (by rw [newB_eq HQ.out]; exact decide_eq_true h3))
    | (have HB : Hid (newB n0 v0 c0 n1 v1 c1 = false) := Lib.hid (by rw [newB_eq HQ.out]; exact decide_eq_false h3))
    clear h2
    go_enter Tryd.func5, Tryd.ntmps5
    go_wp2_with fail
    refine (rImage_E HN0.out HC0.out HE.out _).mono ?_
    rintro e u1 ⟨rfl, hb1⟩
    have HT := Lib.hid ((Two2.new w n0 v0 c0 n1 v1 c1).below hb1)
    have hw1 : Below w.heap.size w u1 := (by repeat (first | (with_reducible exact grow_refl _) | (with_reducible assumption) | (with_reducible refine grow_alloc ?_ _) | (with_reducible refine grow_set ?_ (by first | exact Nat.le_refl _ | (simp; done) | (simp; omega) | omega) _) | (with_reducible refine grow_drewN ?_ _) | (with_reducible refine grow_drew ?_) | (with_reducible refine grow_step ?_ (by assumption)) | (with_reducible refine grow_base ?_ (by assumption))))
    have q0 := HT.out.1.cell
    have q1 := HT.out.2.cell
    have l0 := HT.out.1.lt
    have l1 := HT.out.2.lt
    go_wp2_with fail
    refine (imgCheck_E HN0.out HC0.out HE.out _).mono ?_
    rintro e u2 ⟨rfl, hb2⟩
    have hs2 : Below u1.heap.size u1 u2 := (by repeat (first | (with_reducible exact grow_refl _) | (with_reducible assumption) | (with_reducible refine grow_alloc ?_ _) | (with_reducible refine grow_set ?_ (by first | exact Nat.le_refl _ | (simp; done) | (simp; omega) | omega) _) | (with_reducible refine grow_drewN ?_ _) | (with_reducible refine grow_drew ?_) | (with_reducible refine grow_step ?_ (by assumption)) | (with_reducible refine grow_base ?_ (by assumption))))
    have HT := Lib.hid (HT.out.below hs2)
    clear hs2
    have hw2 : Below w.heap.size w u2 := (by repeat (first | (with_reducible exact grow_refl _) | (with_reducible assumption) | (with_reducible refine grow_alloc ?_ _) | (with_reducible refine grow_set ?_ (by first | exact Nat.le_refl _ | (simp; done) | (simp; omega) | omega) _) | (with_reducible refine grow_drewN ?_ _) | (with_reducible refine grow_drew ?_) | (with_reducible refine grow_step ?_ (by assumption)) | (with_reducible refine grow_base ?_ (by assumption))))
    clear q0 q1 l0 l1
    go_wp2_with fail
    refine (error_same 0 _ (HD.out.below (by repeat (first | (with_reducible exact grow_refl _) | (with_reducible assumption) | (with_reducible refine grow_alloc ?_ _) | (with_reducible refine grow_set ?_ (by first | exact Nat.le_refl _ | (simp; done) | (simp; omega) | omega) _) | (with_reducible refine grow_drewN ?_ _) | (with_reducible refine grow_drew ?_) | (with_reducible refine grow_step ?_ (by assumption)) | (with_reducible refine grow_base ?_ (by assumption))))) I0.out).mono ?_
    rintro e u3 ⟨rfl, hb3⟩
    have hs3 : Below u2.heap.size u2 u3 := (by repeat (first | (with_reducible exact grow_refl _) | (with_reducible assumption) | (with_reducible refine grow_alloc ?_ _) | (with_reducible refine grow_set ?_ (by first | exact Nat.le_refl _ | (simp; done) | (simp; omega) | omega) _) | (with_reducible refine grow_drewN ?_ _) | (with_reducible refine grow_drew ?_) | (with_reducible refine grow_step ?_ (by assumption)) | (with_reducible refine grow_base ?_ (by assumption))))
    have HT := Lib.hid (HT.out.below hs3)
    clear hs3
    have hw3 : Below w.heap.size w u3 := (by repeat (first | (with_reducible exact grow_refl _) | (with_reducible assumption) | (with_reducible refine grow_alloc ?_ _) | (with_reducible refine grow_set ?_ (by first | exact Nat.le_refl _ | (simp; done) | (simp; omega) | omega) _) | (with_reducible refine grow_drewN ?_ _) | (with_reducible refine grow_drew ?_) | (with_reducible refine grow_step ?_ (by assumption)) | (with_reducible refine grow_base ?_ (by assumption))))
    have q0 := HT.out.1.cell
    have q1 := HT.out.2.cell
    have l0 := HT.out.1.lt
    have l1 := HT.out.2.lt
    go_wp2_with fail
    refine (rLine_yes HE.out _).mono ?_
    rintro e u4 ⟨rfl, hb4⟩
    have hs4 : Below u3.heap.size u3 u4 := (by repeat (first | (with_reducible exact grow_refl _) | (with_reducible assumption) | (with_reducible refine grow_alloc ?_ _) | (with_reducible refine grow_set ?_ (by first | exact Nat.le_refl _ | (simp; done) | (simp; omega) | omega) _) | (with_reducible refine grow_drewN ?_ _) | (with_reducible refine grow_drew ?_) | (with_reducible refine grow_step ?_ (by assumption)) | (with_reducible refine grow_base ?_ (by assumption))))
    have HT := Lib.hid (HT.out.below hs4)
    clear hs4
    have hw4 : Below w.heap.size w u4 := (by repeat (first | (with_reducible exact grow_refl _) | (with_reducible assumption) | (with_reducible refine grow_alloc ?_ _) | (with_reducible refine grow_set ?_ (by first | exact Nat.le_refl _ | (simp; done) | (simp; omega) | omega) _) | (with_reducible refine grow_drewN ?_ _) | (with_reducible refine grow_drew ?_) | (with_reducible refine grow_step ?_ (by assumption)) | (with_reducible refine grow_base ?_ (by assumption))))
    clear q0 q1 l0 l1
    have q0 := HT.out.1.cell
    have q1 := HT.out.2.cell
    have l0 := HT.out.1.lt
    have l1 := HT.out.2.lt
    go_wp2_with fail
    refine (rText_line HE.out _).mono ?_
    rintro e u5 ⟨rfl, hb5⟩
    have hs5 : Below u4.heap.size u4 u5 := (by repeat (first | (with_reducible exact grow_refl _) | (with_reducible assumption) | (with_reducible refine grow_alloc ?_ _) | (with_reducible refine grow_set ?_ (by first | exact Nat.le_refl _ | (simp; done) | (simp; omega) | omega) _) | (with_reducible refine grow_drewN ?_ _) | (with_reducible refine grow_drew ?_) | (with_reducible refine grow_step ?_ (by assumption)) | (with_reducible refine grow_base ?_ (by assumption))))
    have HT := Lib.hid (HT.out.below hs5)
    clear hs5
    have hw5 : Below w.heap.size w u5 := (by repeat (first | (with_reducible exact grow_refl _) | (with_reducible assumption) | (with_reducible refine grow_alloc ?_ _) | (with_reducible refine grow_set ?_ (by first | exact Nat.le_refl _ | (simp; done) | (simp; omega) | omega) _) | (with_reducible refine grow_drewN ?_ _) | (with_reducible refine grow_drew ?_) | (with_reducible refine grow_step ?_ (by assumption)) | (with_reducible refine grow_base ?_ (by assumption))))
    clear q0 q1 l0 l1
    have q0 := HT.out.1.cell
    have q1 := HT.out.2.cell
    have l0 := HT.out.1.lt
    have l1 := HT.out.2.lt
    go_wp2_with fail
    refine (imgMeasure_yes n0 v0 c0 _ HE.out (HG.out.below (by repeat (first | (with_reducible exact grow_refl _) | (with_reducible assumption) | (with_reducible refine grow_alloc ?_ _) | (with_reducible refine grow_set ?_ (by first | exact Nat.le_refl _ | (simp; done) | (simp; omega) | omega) _) | (with_reducible refine grow_drewN ?_ _) | (with_reducible refine grow_drew ?_) | (with_reducible refine grow_step ?_ (by assumption)) | (with_reducible refine grow_base ?_ (by assumption))))).1).mono ?_
    rintro e u6 ⟨rfl, hb6⟩
    have hs6 : Below u5.heap.size u5 u6 := (by repeat (first | (with_reducible exact grow_refl _) | (with_reducible assumption) | (with_reducible refine grow_alloc ?_ _) | (with_reducible refine grow_set ?_ (by first | exact Nat.le_refl _ | (simp; done) | (simp; omega) | omega) _) | (with_reducible refine grow_drewN ?_ _) | (with_reducible refine grow_drew ?_) | (with_reducible refine grow_step ?_ (by assumption)) | (with_reducible refine grow_base ?_ (by assumption))))
    have HT := Lib.hid (HT.out.below hs6)
    clear hs6
    have hw6 : Below w.heap.size w u6 := (by repeat (first | (with_reducible exact grow_refl _) | (with_reducible assumption) | (with_reducible refine grow_alloc ?_ _) | (with_reducible refine grow_set ?_ (by first | exact Nat.le_refl _ | (simp; done) | (simp; omega) | omega) _) | (with_reducible refine grow_drewN ?_ _) | (with_reducible refine grow_drew ?_) | (with_reducible refine grow_step ?_ (by assumption)) | (with_reducible refine grow_base ?_ (by assumption))))
    clear q0 q1 l0 l1
    go_wp2_with fail
    refine (error_same 0 _ (HD.out.below (by repeat (first | (with_reducible exact grow_refl _) | (with_reducible assumption) | (with_reducible refine grow_alloc ?_ _) | (with_reducible refine grow_set ?_ (by first | exact Nat.le_refl _ | (simp; done) | (simp; omega) | omega) _) | (with_reducible refine grow_drewN ?_ _) | (with_reducible refine grow_drew ?_) | (with_reducible refine grow_step ?_ (by assumption)) | (with_reducible refine grow_base ?_ (by assumption))))) I0.out).mono ?_
    rintro e u7 ⟨rfl, hb7⟩
    have hs7 : Below u6.heap.size u6 u7 := (by repeat (first | (with_reducible exact grow_refl _) | (with_reducible assumption) | (with_reducible refine grow_alloc ?_ _) | (with_reducible refine grow_set ?_ (by first | exact Nat.le_refl _ | (simp; done) | (simp; omega) | omega) _) | (with_reducible refine grow_drewN ?_ _) | (with_reducible refine grow_drew ?_) | (with_reducible refine grow_step ?_ (by assumption)) | (with_reducible refine grow_base ?_ (by assumption))))
    have HT := Lib.hid (HT.out.below hs7)
    clear hs7
    have hw7 : Below w.heap.size w u7 := (by repeat (first | (with_reducible exact grow_refl _) | (with_reducible assumption) | (with_reducible refine grow_alloc ?_ _) | (with_reducible refine grow_set ?_ (by first | exact Nat.le_refl _ | (simp; done) | (simp; omega) | omega) _) | (with_reducible refine grow_drewN ?_ _) | (with_reducible refine grow_drew ?_) | (with_reducible refine grow_step ?_ (by assumption)) | (with_reducible refine grow_base ?_ (by assumption))))
    have q0 := HT.out.1.cell
    have q1 := HT.out.2.cell
    have l0 := HT.out.1.lt
    have l1 := HT.out.2.lt
    go_wp2_with fail
    refine (imgPrint_yes n0 v0 c0 _ HE.out (HG.out.below (by repeat (first | (with_reducible exact grow_refl _) | (with_reducible assumption) | (with_reducible refine grow_alloc ?_ _) | (with_reducible refine grow_set ?_ (by first | exact Nat.le_refl _ | (simp; done) | (simp; omega) | omega) _) | (with_reducible refine grow_drewN ?_ _) | (with_reducible refine grow_drew ?_) | (with_reducible refine grow_step ?_ (by assumption)) | (with_reducible refine grow_base ?_ (by assumption))))).1).mono ?_
    rintro e u8 ⟨rfl, hb8⟩
    have hs8 : Below u7.heap.size u7 u8 := (by repeat (first | (with_reducible exact grow_refl _) | (with_reducible assumption) | (with_reducible refine grow_alloc ?_ _) | (with_reducible refine grow_set ?_ (by first | exact Nat.le_refl _ | (simp; done) | (simp; omega) | omega) _) | (with_reducible refine grow_drewN ?_ _) | (with_reducible refine grow_drew ?_) | (with_reducible refine grow_step ?_ (by assumption)) | (with_reducible refine grow_base ?_ (by assumption))))
    have HT := Lib.hid (HT.out.below hs8)
    clear hs8
    have hw8 : Below w.heap.size w u8 := (by repeat (first | (with_reducible exact grow_refl _) | (with_reducible assumption) | (with_reducible refine grow_alloc ?_ _) | (with_reducible refine grow_set ?_ (by first | exact Nat.le_refl _ | (simp; done) | (simp; omega) | omega) _) | (with_reducible refine grow_drewN ?_ _) | (with_reducible refine grow_drew ?_) | (with_reducible refine grow_step ?_ (by assumption)) | (with_reducible refine grow_base ?_ (by assumption))))
    clear q0 q1 l0 l1
    go_wp2_with fail
    refine (error_same 0 _ (HD.out.below (by repeat (first | (with_reducible exact grow_refl _) | (with_reducible assumption) | (with_reducible refine grow_alloc ?_ _) | (with_reducible refine grow_set ?_ (by first | exact Nat.le_refl _ | (simp; done) | (simp; omega) | omega) _) | (with_reducible refine grow_drewN ?_ _) | (with_reducible refine grow_drew ?_) | (with_reducible refine grow_step ?_ (by assumption)) | (with_reducible refine grow_base ?_ (by assumption))))) I0.out).mono ?_
    rintro e u9 ⟨rfl, hb9⟩
    have hs9 : Below u8.heap.size u8 u9 := (by repeat (first | (with_reducible exact grow_refl _) | (with_reducible assumption) | (with_reducible refine grow_alloc ?_ _) | (with_reducible refine grow_set ?_ (by first | exact Nat.le_refl _ | (simp; done) | (simp; omega) | omega) _) | (with_reducible refine grow_drewN ?_ _) | (with_reducible refine grow_drew ?_) | (with_reducible refine grow_step ?_ (by assumption)) | (with_reducible refine grow_base ?_ (by assumption))))
    have HT := Lib.hid (HT.out.below hs9)
    clear hs9
    have hw9 : Below w.heap.size w u9 := (by repeat (first | (with_reducible exact grow_refl _) | (with_reducible assumption) | (with_reducible refine grow_alloc ?_ _) | (with_reducible refine grow_set ?_ (by first | exact Nat.le_refl _ | (simp; done) | (simp; omega) | omega) _) | (with_reducible refine grow_drewN ?_ _) | (with_reducible refine grow_drew ?_) | (with_reducible refine grow_step ?_ (by assumption)) | (with_reducible refine grow_base ?_ (by assumption))))
    have q0 := HT.out.1.cell
    have q1 := HT.out.2.cell
    have l0 := HT.out.1.lt
    have l1 := HT.out.2.lt
    go_wp2_with fail
    refine (rImage_E HN1.out HC1.out HF.out _).mono ?_
    rintro e u10 ⟨rfl, hb10⟩
    have hs10 : Below u9.heap.size u9 u10 := (by repeat (first | (with_reducible exact grow_refl _) | (with_reducible assumption) | (with_reducible refine grow_alloc ?_ _) | (with_reducible refine grow_set ?_ (by first | exact Nat.le_refl _ | (simp; done) | (simp; omega) | omega) _) | (with_reducible refine grow_drewN ?_ _) | (with_reducible refine grow_drew ?_) | (with_reducible refine grow_step ?_ (by assumption)) | (with_reducible refine grow_base ?_ (by assumption))))
    have HT := Lib.hid (HT.out.below hs10)
    clear hs10
    have hw10 : Below w.heap.size w u10 := (by repeat (first | (with_reducible exact grow_refl _) | (with_reducible assumption) | (with_reducible refine grow_alloc ?_ _) | (with_reducible refine grow_set ?_ (by first | exact Nat.le_refl _ | (simp; done) | (simp; omega) | omega) _) | (with_reducible refine grow_drewN ?_ _) | (with_reducible refine grow_drew ?_) | (with_reducible refine grow_step ?_ (by assumption)) | (with_reducible refine grow_base ?_ (by assumption))))
    clear q0 q1 l0 l1
    have q0 := HT.out.1.cell
    have q1 := HT.out.2.cell
    have l0 := HT.out.1.lt
    have l1 := HT.out.2.lt
    go_wp2_with fail
    refine (newer_gen HN0.out HC0.out HN1.out HC1.out _ 0 HB.out HQ.out _).mono ?_
    rintro e u11 ⟨rfl, hb11⟩
    have hs11 : Below u10.heap.size u10 u11 := (by repeat (first | (with_reducible exact grow_refl _) | (with_reducible assumption) | (with_reducible refine grow_alloc ?_ _) | (with_reducible refine grow_set ?_ (by first | exact Nat.le_refl _ | (simp; done) | (simp; omega) | omega) _) | (with_reducible refine grow_drewN ?_ _) | (with_reducible refine grow_drew ?_) | (with_reducible refine grow_step ?_ (by assumption)) | (with_reducible refine grow_base ?_ (by assumption))))
    have HT := Lib.hid (HT.out.below hs11)
    clear hs11
    have hw11 : Below w.heap.size w u11 := (by repeat (first | (with_reducible exact grow_refl _) | (with_reducible assumption) | (with_reducible refine grow_alloc ?_ _) | (with_reducible refine grow_set ?_ (by first | exact Nat.le_refl _ | (simp; done) | (simp; omega) | omega) _) | (with_reducible refine grow_drewN ?_ _) | (with_reducible refine grow_drew ?_) | (with_reducible refine grow_step ?_ (by assumption)) | (with_reducible refine grow_base ?_ (by assumption))))
    clear q0 q1 l0 l1
    go_wp2_with fail
    refine (error_same 0 _ (HD.out.below (by repeat (first | (with_reducible exact grow_refl _) | (with_reducible assumption) | (with_reducible refine grow_alloc ?_ _) | (with_reducible refine grow_set ?_ (by first | exact Nat.le_refl _ | (simp; done) | (simp; omega) | omega) _) | (with_reducible refine grow_drewN ?_ _) | (with_reducible refine grow_drew ?_) | (with_reducible refine grow_step ?_ (by assumption)) | (with_reducible refine grow_base ?_ (by assumption))))) I0.out).mono ?_
    rintro e u12 ⟨rfl, hb12⟩
    have hs12 : Below u11.heap.size u11 u12 := (by repeat (first | (with_reducible exact grow_refl _) | (with_reducible assumption) | (with_reducible refine grow_alloc ?_ _) | (with_reducible refine grow_set ?_ (by first | exact Nat.le_refl _ | (simp; done) | (simp; omega) | omega) _) | (with_reducible refine grow_drewN ?_ _) | (with_reducible refine grow_drew ?_) | (with_reducible refine grow_step ?_ (by assumption)) | (with_reducible refine grow_base ?_ (by assumption))))
    have HT := Lib.hid (HT.out.below hs12)
    clear hs12
    have hw12 : Below w.heap.size w u12 := (by repeat (first | (with_reducible exact grow_refl _) | (with_reducible assumption) | (with_reducible refine grow_alloc ?_ _) | (with_reducible refine grow_set ?_ (by first | exact Nat.le_refl _ | (simp; done) | (simp; omega) | omega) _) | (with_reducible refine grow_drewN ?_ _) | (with_reducible refine grow_drew ?_) | (with_reducible refine grow_step ?_ (by assumption)) | (with_reducible refine grow_base ?_ (by assumption))))
    have q0 := HT.out.1.cell
    have q1 := HT.out.2.cell
    have l0 := HT.out.1.lt
    have l1 := HT.out.2.lt
    go_wp2_with fail
    refine (HRD.out _).mono ?_
    rintro e u13 ⟨rfl, hb13⟩
    have hs13 : Below u12.heap.size u12 u13 := (by repeat (first | (with_reducible exact grow_refl _) | (with_reducible assumption) | (with_reducible refine grow_alloc ?_ _) | (with_reducible refine grow_set ?_ (by first | exact Nat.le_refl _ | (simp; done) | (simp; omega) | omega) _) | (with_reducible refine grow_drewN ?_ _) | (with_reducible refine grow_drew ?_) | (with_reducible refine grow_step ?_ (by assumption)) | (with_reducible refine grow_base ?_ (by assumption))))
    have HT := Lib.hid (HT.out.below hs13)
    clear hs13
    have hw13 : Below w.heap.size w u13 := (by repeat (first | (with_reducible exact grow_refl _) | (with_reducible assumption) | (with_reducible refine grow_alloc ?_ _) | (with_reducible refine grow_set ?_ (by first | exact Nat.le_refl _ | (simp; done) | (simp; omega) | omega) _) | (with_reducible refine grow_drewN ?_ _) | (with_reducible refine grow_drew ?_) | (with_reducible refine grow_step ?_ (by assumption)) | (with_reducible refine grow_base ?_ (by assumption))))
    clear q0 q1 l0 l1
    go_wp2_with fail
    refine (HP.out _ (HG.out.below (by repeat (first | (with_reducible exact grow_refl _) | (with_reducible assumption) | (with_reducible refine grow_alloc ?_ _) | (with_reducible refine grow_set ?_ (by first | exact Nat.le_refl _ | (simp; done) | (simp; omega) | omega) _) | (with_reducible refine grow_drewN ?_ _) | (with_reducible refine grow_drew ?_) | (with_reducible refine grow_step ?_ (by assumption)) | (with_reducible refine grow_base ?_ (by assumption)))))).mono ?_
    rintro e u14 ⟨rfl, hb14⟩
    have HW := Lib.hid ((Box.new u13 31 #[.string pn, .int .i64 pv, .string pc]).below hb14)
    have hw14 : Below w.heap.size w u14 := (by repeat (first | (with_reducible exact grow_refl _) | (with_reducible assumption) | (with_reducible refine grow_alloc ?_ _) | (with_reducible refine grow_set ?_ (by first | exact Nat.le_refl _ | (simp; done) | (simp; omega) | omega) _) | (with_reducible refine grow_drewN ?_ _) | (with_reducible refine grow_drew ?_) | (with_reducible refine grow_step ?_ (by assumption)) | (with_reducible refine grow_base ?_ (by assumption))))
    go_wp2_with fail
    refine (error_same pE _ (HD.out.below (by repeat (first | (with_reducible exact grow_refl _) | (with_reducible assumption) | (with_reducible refine grow_alloc ?_ _) | (with_reducible refine grow_set ?_ (by first | exact Nat.le_refl _ | (simp; done) | (simp; omega) | omega) _) | (with_reducible refine grow_drewN ?_ _) | (with_reducible refine grow_drew ?_) | (with_reducible refine grow_step ?_ (by assumption)) | (with_reducible refine grow_base ?_ (by assumption))))) IP.out).mono ?_
    rintro e u15 ⟨rfl, hb15⟩
    have HW2 := Lib.hid ((HW.out.below (grow_alloc (grow_refl _) _)).below hb15)
    have HZ := Lib.hid ((Box.new u14 31 #[.string pn, .int .i64 pv, .string pc]).below hb15)
    have hw15 : Below w.heap.size w u15 := (by repeat (first | (with_reducible exact grow_refl _) | (with_reducible assumption) | (with_reducible refine grow_alloc ?_ _) | (with_reducible refine grow_set ?_ (by first | exact Nat.le_refl _ | (simp; done) | (simp; omega) | omega) _) | (with_reducible refine grow_drewN ?_ _) | (with_reducible refine grow_drew ?_) | (with_reducible refine grow_step ?_ (by assumption)) | (with_reducible refine grow_base ?_ (by assumption))))
    have y0 := HW2.out.cell
    have y1 := HW2.out.lt
    have y2 := HZ.out.cell
    have y3 := HZ.out.lt
    have y4 := fun w => eqIm pn pv pc (by have := ZP.out.1; omega) (by have := ZP.out.2; omega) VP.out w
    go_wp2_with fail
    go_ret
    exact ⟨by first | rfl | (show Ending.returned (.bool (!decide (v1 < v0))) = _; rw [show decide (v1 < v0) = false from decide_eq_false (by omega)]; rfl), (by repeat (first | (with_reducible exact grow_refl _) | (with_reducible assumption) | (with_reducible refine grow_alloc ?_ _) | (with_reducible refine grow_set ?_ (by first | exact Nat.le_refl _ | (simp; done) | (simp; omega) | omega) _) | (with_reducible refine grow_drewN ?_ _) | (with_reducible refine grow_drew ?_) | (with_reducible refine grow_step ?_ (by assumption)) | (with_reducible refine grow_base ?_ (by assumption))))⟩

set_option maxRecDepth 100000 in
theorem imageTells_walks (H : Type) (enc : TypeId × Value → H) : WalksU enc Tryd.prog ReadTD 5 Tryd.f5 := by
  intro W base args ds p hval hA hlt hbulk hsz hdoor
  have hsz0 := hsz
  rw [Tryd.params5] at hA hval
  obtain ⟨v0, vs0, d0, ds0, p0, q0, hargs, rfl, rfl, h0, r0⟩ := trodAll_cons hA
  obtain ⟨v1, vs1, d1, ds1, p1, q1, rfl, rfl, rfl, h1, r1⟩ := trodAll_cons r0
  obtain ⟨v2, vs2, d2, ds2, p2, q2, rfl, rfl, rfl, h2, r2⟩ := trodAll_cons r1
  obtain ⟨rfl, rfl, rfl⟩ := trodAll_nil r2
  obtain rfl : args = #[v0, v1, v2] := by cases args; simp_all
  obtain ⟨a0, b0, c0, rfl, w0, u0, z0⟩ := op_image (hval 0 31 v0 rfl rfl) h0 (w_each hsz 0 31 _ (by rw [Tryd.params5]; rfl) rfl)
  obtain ⟨a1, b1, c1, rfl, w1, u1, z1⟩ := op_image (hval 1 31 v1 rfl rfl) h1 (w_each hsz 1 31 _ (by rw [Tryd.params5]; rfl) rfl)
  obtain ⟨a2, rfl, w2⟩ := op_strU (hval 2 9 v2 rfl rfl) h2 hbulk (by simp)
  exact imageTells_walk W a0 b0 c0 a1 b1 c1 a2 w0 u0 z0 w1 u1 z1 w2 hdoor

theorem imageTells_reads (os : Os) {H : Type} (enc : TypeId × Value → H) : ∃ places, DataW.whole enc Tryd.prog ((laidWorldJ os).forCall (fun _ _ => 0) ⟨#[], #[.agg #[.string ⟨#[]⟩, .int .i64 0, .string ⟨#[]⟩], .agg #[.string ⟨#[]⟩, .int .i64 0, .string ⟨#[]⟩], .string ⟨#[]⟩], []⟩).memory Tryd.f5.params.toList Rows.imageTellsSpec.vars false (#[.agg #[.string ⟨#[]⟩, .int .i64 0, .string ⟨#[]⟩], .agg #[.string ⟨#[]⟩, .int .i64 0, .string ⟨#[]⟩], .string ⟨#[]⟩] : Array Value).toList 8 = some ([.agg [.lit (.string []), .lit (.int .i64 0), .lit (.string [])], .agg [.lit (.string []), .lit (.int .i64 0), .lit (.string [])], .lit (.string [])], [], places) :=
  ⟨[], by kernel_rfl⟩
set_option maxRecDepth 100000 in
theorem imageTells_lifted (os : Os) (started : os.Started) (H : Type) (enc : TypeId × Value → H) (F : Stop.Interp) :
    ReturnsInHanded {} Tryd.checked os 5 .any ((Rows.OpenSpec.upto Rows.imageTellsSpec).preRow enc Tryd.prog Tryd.f5 Rows.imageTellsUptoRow.domain false Rows.imageTellsUptoRow.laid) (((Rows.OpenSpec.upto Rows.imageTellsSpec).at F).post enc Tryd.prog Tryd.f5 false true false false) := by
  obtain ⟨places, hx⟩ := imageTells_reads os enc
  exact returns_of_walkU (C := Tryd.checked) (s := Rows.imageTellsSpec) (L := LaidJ) (D := ReadTD) own started (by kernel_rfl) Tryd.func5
    (witness_row_at (enc := enc) (C := Tryd.checked) false (laidWorldJ os) #[.agg #[.string ⟨#[]⟩, .int .i64 0, .string ⟨#[]⟩], .agg #[.string ⟨#[]⟩, .int .i64 0, .string ⟨#[]⟩], .string ⟨#[]⟩] rfl (by kernel_rfl) (by kernel_rfl) (by kernel_rfl)
      (OpenSpec.preRow_of_cond 8 hx (by kernel_rfl) (fun k hk => by cases hk; kernel_rfl) (by kernel_rfl) (laidWorldJ_met os _)))
    (fun W h hs => readJ_of_laid h hs) laidOut (by kernel_rfl) rfl Tryd.underlying4 rfl (fun ds h => by match ds, h with | [_, _, _], _ => rfl) (imageTells_walks H enc)

theorem imageTells_bare : Rows.ImageTellsUptoSaid :=
  OpenClaim.holds_of_cond 5 Tryd.f5 rfl rfl rfl rfl rfl rfl rfl ⟨rfl, rfl, rfl, rfl, rfl⟩ rfl rfl rfl rfl rfl (by kernel_rfl) Tryd.func5 (by kernel_rfl)
    (of_decide_eq_true (by kernel_rfl)) (by unfold Func.isWrapper; rw [if_neg (of_decide_eq_false (by kernel_rfl))]; exact ⟨rfl, rfl⟩)
    (fun os started H enc _ F => by rw [OpenClaim.pre_eq_preRow]; exact imageTells_lifted os started H enc F)

theorem imageTells_holds : Rows.ImageTellsUptoCardSaid :=
  Claim7.holds_tied_plain_at .later [] _ _ _ _
    imageTells_bare (fun _ h => by cases h) (by kernel_rfl) (fun _ h => by cases h) imageTellsUpto_row_tie rfl ⟨rfl, rfl⟩ (by kernel_rfl) rfl
    (fun f fn hf hfn => by
      obtain rfl : f = 5 := Option.some.inj ((show Tryd.prog.funcNamed "bootstair/stairlaw1.ImageTells" = some 5 by kernel_rfl).symm.trans hf) |>.symm
      obtain rfl : fn = Tryd.f5 := (Option.some.inj (Tryd.func5.symm.trans hfn)).symm
      exact ⟨by kernel_rfl, fun j t ht => by
        have hm : t ∈ Tryd.f5.params.toList := by simpa using Array.mem_of_getElem? ht
        have hall : (Tryd.f5.params.toList.all fun u => !Tryd.prog.wantsStandIn u) = true := by kernel_rfl
        exact (show Tryd.prog.wantsStandIn t = false by simpa using List.all_eq_true.1 hall t hm)⟩)
    (by kernel_rfl)

end Go.Proofs.YtalgnjdnanlidaaDoor
