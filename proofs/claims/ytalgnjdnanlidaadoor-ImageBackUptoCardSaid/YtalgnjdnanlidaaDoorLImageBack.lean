/- ImageBack: an image is read as it was. Where what the law reads is of bulk at most 1048576; the listed package variables hold what the program's text lays. -/
import Derived.Test.YtalgnjdnanlidaaDoorRows
import Derived.Test.YtalgnjdnanlidaaDoorOpen
import Derived.Test.YtalgnjdnanlidaaDoorOpI
import Derived.Test.YtalgnjdnanlidaaDoorParse
import Derived.Test.YtalgnjdnanlidaaDoorParse2
import Derived.Test.YtalgnjdnanlidaaDoorImg3
import Derived.Test.YtalgnjdnanlidaaDoorNewer
import Derived.Test.YtalgnjdnanlidaaDoorWords
import Derived.Test.YtalgnjdnanlidaaDoorImEq
import Derived.Test.YtalgnjdnanlidaaDoorLiftI
import Derived.Test.YtalgnjdnanlidaaDoorLiftU
import Derived.WalkKit
import Derived.WalkSpells
import Derived.Lib.Hide
import Derived.Deep.RegionHeld3
namespace Go.Proofs.YtalgnjdnanlidaaDoor
open Go.ChangeShapes Go.WideShapes Go.ChangeAt Go.RowKit
set_option linter.unusedVariables false
set_option maxRecDepth 100000

theorem lineS_small {n c : ByteArray} {v : Int} (h : imgE n v c = 0) : (lineS n v c).size ≤ 1048576 := by
  obtain ⟨_, _, _, h1, h2, h3, h4⟩ := imgE_ok h
  have hv := itoa_len (v := v) (by omega) h4
  rw [lineS_size]
  omega
theorem parse_fact (w : World) (h : ReadT w) :
    Calls Tryd.prog 10 #[.string factS] w fun e w' => e = .returned (.tuple #[.agg #[.string osN, .int .i64 12, .string abcN], errV 0]) ∧ Below w.heap.size w w' := by
  have := imgParse_any factS w (by decide) h
  rw [fact_parse] at this
  exact this
theorem parse_of_line {n c : ByteArray} {v : Int} (hi : imgE n v c = 0) (w : World) (h : ReadT w) :
    Calls Tryd.prog 10 #[.string (lineS n v c)] w fun e w' => e = .returned (.tuple #[.agg #[.string n, .int .i64 v, .string c], errV 0]) ∧ Below w.heap.size w w' := by
  have := imgParse_any (lineS n v c) w (lineS_small hi) h
  rw [parse_line hi] at this
  exact this
theorem newB_of {na ca nb cb : ByteArray} {va vb : Int} (h : newE na va ca nb vb cb = 0) : newB na va ca nb vb cb = decide (vb < va) := by
  unfold newB; rw [h]; rfl

theorem print_back {n c s : ByteArray} {v : Int} (hi : imgE n v c = 0) (hl : lineS n v c = s) (w : World) (h : ReadT w) :
    Calls Tryd.prog 11 #[.agg #[.string n, .int .i64 v, .string c]] w fun e w' => e = .returned (.tuple #[.string s, errV 0]) ∧ Below w.heap.size w w' := by
  have := imgPrint_yes n v c w hi h.1
  rw [hl] at this
  exact this
theorem newer_gen {na ca nb cb : ByteArray} {va vb : Int} (h1 : na.size ≤ 140737488351232) (h2 : ca.size ≤ 140737488351232) (h3 : nb.size ≤ 140737488351232) (h4 : cb.size ≤ 140737488351232) (B : Bool) (E : Int) (hB : newB na va ca nb vb cb = B) (hE : newE na va ca nb vb cb = E) (w : World) :
    Calls Tryd.prog 12 #[.agg #[.string na, .int .i64 va, .string ca], .agg #[.string nb, .int .i64 vb, .string cb]] w fun e w' => e = .returned (.tuple #[.bool B, errV E]) ∧ Below w.heap.size w w' := by
  rw [← hB, ← hE]
  exact imgNewer_any na va ca nb vb cb w (by omega) (by omega) (by omega) (by omega)
abbrev imC (n : ByteArray) (v : Int) (c : ByteArray) : Array Value := #[.string n, .int .i64 v, .string c]
def Three (w : World) (g : Nat) (n0 : ByteArray) (v0 : Int) (c0 n1 : ByteArray) (v1 : Int) (c1 n2 : ByteArray) (v2 : Int) (c2 : ByteArray) : Prop :=
  Box w g 31 #[.string n0, .int .i64 v0, .string c0] ∧ Box w (g + 1) 31 #[.string n1, .int .i64 v1, .string c1] ∧ Box w (g + 1 + 1) 31 #[.string n2, .int .i64 v2, .string c2]
theorem Three.below {w w' : World} {g : Nat} {n0 : ByteArray} {v0 : Int} {c0 n1 : ByteArray} {v1 : Int} {c1 n2 : ByteArray} {v2 : Int} {c2 : ByteArray} (h : Three w g n0 v0 c0 n1 v1 c1 n2 v2 c2) (hb : Below w.heap.size w w') : Three w' g n0 v0 c0 n1 v1 c1 n2 v2 c2 :=
  ⟨h.1.below hb, h.2.1.below hb, h.2.2.below hb⟩
abbrev w3 (w : World) (n0 : ByteArray) (v0 : Int) (c0 n1 : ByteArray) (v1 : Int) (c1 n2 : ByteArray) (v2 : Int) (c2 : ByteArray) : World := ((w.alloc (.cells #[.string n0, .int .i64 v0, .string c0] 31)).alloc (.cells #[.string n1, .int .i64 v1, .string c1] 31)).alloc (.cells #[.string n2, .int .i64 v2, .string c2] 31)
theorem Three.new (w : World) (n0 : ByteArray) (v0 : Int) (c0 n1 : ByteArray) (v1 : Int) (c1 n2 : ByteArray) (v2 : Int) (c2 : ByteArray) : Three (w3 w n0 v0 c0 n1 v1 c1 n2 v2 c2) w.heap.size n0 v0 c0 n1 v1 c1 n2 v2 c2 := by
  have e1 : (w.alloc (.cells #[.string n0, .int .i64 v0, .string c0] 31)).heap.size = w.heap.size + 1 := by simp
  have e2 : ((w.alloc (.cells #[.string n0, .int .i64 v0, .string c0] 31)).alloc (.cells #[.string n1, .int .i64 v1, .string c1] 31)).heap.size = w.heap.size + 1 + 1 := by simp
  refine ⟨((Box.new w _ _).below (grow_alloc (grow_refl _) _)).below (grow_alloc (grow_refl _) _), ?_, ?_⟩
  · have h := (Box.new (w.alloc (.cells #[.string n0, .int .i64 v0, .string c0] 31)) 31 #[.string n1, .int .i64 v1, .string c1]).below (grow_alloc (grow_refl _) (.cells #[.string n2, .int .i64 v2, .string c2] 31))
    rw [e1] at h
    exact h
  · have h := Box.new ((w.alloc (.cells #[.string n0, .int .i64 v0, .string c0] 31)).alloc (.cells #[.string n1, .int .i64 v1, .string c1] 31)) 31 #[.string n2, .int .i64 v2, .string c2]
    rw [e2] at h
    exact h

set_option maxHeartbeats 8000000 in
theorem imageBack_walk (w : World) (n0 : ByteArray) (v0 : Int) (c0 n1 : ByteArray) (v1 : Int) (c1 n2 : ByteArray) (v2 : Int) (c2 s : ByteArray) (i0 : I64 v0) (hn0 : n0.size ≤ 140737488351232) (hc0 : c0.size ≤ 140737488351232) (i1 : I64 v1) (hn1 : n1.size ≤ 140737488351232) (hc1 : c1.size ≤ 140737488351232) (i2 : I64 v2) (hn2 : n2.size ≤ 140737488351232) (hc2 : c2.size ≤ 140737488351232) (hs : s.size ≤ 1048576) (hg : ReadT w) :
    Calls Tryd.prog 4 #[.agg #[.string n0, .int .i64 v0, .string c0], .agg #[.string n1, .int .i64 v1, .string c1], .agg #[.string n2, .int .i64 v2, .string c2], .string s] w fun e w' => e = .returned (.bool true) ∧ Below w.heap.size w w' := by
  have en := fun k w => err_neq k w
  have ee := fun k w => err_eql k w
  have gn := fun o k w => err_guard_neq o k w
  have ge := fun o k w => err_guard_eql o k w
  have gI := fun x0 x1 x2 y0 y1 y2 op o p w => guardIm x0 x1 x2 y0 y1 y2 op o p w
  have HG := Lib.hid hg
  have HP := Lib.hid (fun w h => imgParse_any s w hs h)
  have HN0 := Lib.hid hn0
  have HC0 := Lib.hid hc0
  have HN1 := Lib.hid hn1
  have HC1 := Lib.hid hc1
  have HN2 := Lib.hid hn2
  have HC2 := Lib.hid hc2
  clear hg hs hn0 hc0 hn1 hc1 hn2 hc2
  rcases parse_cases s with ⟨n, v, c, hi, hl, hp⟩ | ⟨e, he, hp⟩
  · rw [hp] at HP
    have HI := Lib.hid hi
    have HL := Lib.hid hl
    clear hi hl hp
    go_enter Tryd.func4, Tryd.ntmps4
    go_wp2_with fail
    refine (parse_fact _ (HG.out.below (by repeat (first | (with_reducible exact grow_refl _) | (with_reducible assumption) | (with_reducible refine grow_alloc ?_ _) | (with_reducible refine grow_set ?_ (by first | exact Nat.le_refl _ | (simp; done) | (simp; omega) | omega) _) | (with_reducible refine grow_drewN ?_ _) | (with_reducible refine grow_drew ?_) | (with_reducible refine grow_step ?_ (by assumption)) | (with_reducible refine grow_base ?_ (by assumption)))))).mono ?_
    rintro e u1 ⟨rfl, hb1⟩
    have HT := Lib.hid ((Three.new w n0 v0 c0 n1 v1 c1 n2 v2 c2).below hb1)
    have hw1 : Below w.heap.size w u1 := (by repeat (first | (with_reducible exact grow_refl _) | (with_reducible assumption) | (with_reducible refine grow_alloc ?_ _) | (with_reducible refine grow_set ?_ (by first | exact Nat.le_refl _ | (simp; done) | (simp; omega) | omega) _) | (with_reducible refine grow_drewN ?_ _) | (with_reducible refine grow_drew ?_) | (with_reducible refine grow_step ?_ (by assumption)) | (with_reducible refine grow_base ?_ (by assumption))))
    have q0 := HT.out.1.cell
    have q1 := HT.out.2.1.cell
    have q2 := HT.out.2.2.cell
    have l0 := HT.out.1.lt
    have l1 := HT.out.2.1.lt
    have l2 := HT.out.2.2.lt
    go_wp2_with fail
    refine (HP.out _ (HG.out.below (by repeat (first | (with_reducible exact grow_refl _) | (with_reducible assumption) | (with_reducible refine grow_alloc ?_ _) | (with_reducible refine grow_set ?_ (by first | exact Nat.le_refl _ | (simp; done) | (simp; omega) | omega) _) | (with_reducible refine grow_drewN ?_ _) | (with_reducible refine grow_drew ?_) | (with_reducible refine grow_step ?_ (by assumption)) | (with_reducible refine grow_base ?_ (by assumption)))))).mono ?_
    rintro e u2 ⟨rfl, hb2⟩
    have hs2 : Below u1.heap.size u1 u2 := (by repeat (first | (with_reducible exact grow_refl _) | (with_reducible assumption) | (with_reducible refine grow_alloc ?_ _) | (with_reducible refine grow_set ?_ (by first | exact Nat.le_refl _ | (simp; done) | (simp; omega) | omega) _) | (with_reducible refine grow_drewN ?_ _) | (with_reducible refine grow_drew ?_) | (with_reducible refine grow_step ?_ (by assumption)) | (with_reducible refine grow_base ?_ (by assumption))))
    have HT := Lib.hid (HT.out.below hs2)
    clear hs2
    have hw2 : Below w.heap.size w u2 := (by repeat (first | (with_reducible exact grow_refl _) | (with_reducible assumption) | (with_reducible refine grow_alloc ?_ _) | (with_reducible refine grow_set ?_ (by first | exact Nat.le_refl _ | (simp; done) | (simp; omega) | omega) _) | (with_reducible refine grow_drewN ?_ _) | (with_reducible refine grow_drew ?_) | (with_reducible refine grow_step ?_ (by assumption)) | (with_reducible refine grow_base ?_ (by assumption))))
    clear q0 q1 q2 l0 l1 l2
    have q0 := HT.out.1.cell
    have q1 := HT.out.2.1.cell
    have q2 := HT.out.2.2.cell
    have l0 := HT.out.1.lt
    have l1 := HT.out.2.1.lt
    have l2 := HT.out.2.2.lt
    go_wp2_with fail
    refine (print_back HI.out HL.out _ (HG.out.below (by repeat (first | (with_reducible exact grow_refl _) | (with_reducible assumption) | (with_reducible refine grow_alloc ?_ _) | (with_reducible refine grow_set ?_ (by first | exact Nat.le_refl _ | (simp; done) | (simp; omega) | omega) _) | (with_reducible refine grow_drewN ?_ _) | (with_reducible refine grow_drew ?_) | (with_reducible refine grow_step ?_ (by assumption)) | (with_reducible refine grow_base ?_ (by assumption)))))).mono ?_
    rintro e u3 ⟨rfl, hb3⟩
    have hs3 : Below u2.heap.size u2 u3 := (by repeat (first | (with_reducible exact grow_refl _) | (with_reducible assumption) | (with_reducible refine grow_alloc ?_ _) | (with_reducible refine grow_set ?_ (by first | exact Nat.le_refl _ | (simp; done) | (simp; omega) | omega) _) | (with_reducible refine grow_drewN ?_ _) | (with_reducible refine grow_drew ?_) | (with_reducible refine grow_step ?_ (by assumption)) | (with_reducible refine grow_base ?_ (by assumption))))
    have HT := Lib.hid (HT.out.below hs3)
    clear hs3
    have hw3 : Below w.heap.size w u3 := (by repeat (first | (with_reducible exact grow_refl _) | (with_reducible assumption) | (with_reducible refine grow_alloc ?_ _) | (with_reducible refine grow_set ?_ (by first | exact Nat.le_refl _ | (simp; done) | (simp; omega) | omega) _) | (with_reducible refine grow_drewN ?_ _) | (with_reducible refine grow_drew ?_) | (with_reducible refine grow_step ?_ (by assumption)) | (with_reducible refine grow_base ?_ (by assumption))))
    clear q0 q1 q2 l0 l1 l2
    by_cases h0 : imgE n0 v0 c0 = 0
    rotate_left
    · have h1 : newE n0 v0 c0 n1 v1 c1 ≠ 0 := fun e => h0 (newE_zero.1 e).1
      obtain ⟨E, hE⟩ : ∃ E, imgE n0 v0 c0 = E := ⟨_, rfl⟩
      obtain ⟨F, hF⟩ : ∃ F, newE n0 v0 c0 n1 v1 c1 = F := ⟨_, rfl⟩
      rw [hE] at h0
      rw [hF] at h1
      have t0 : (E == 0) = false := by simp [h0]
      have t1 : (F != 0) = true := by simp [h1]
      have HE := Lib.hid hE
      have HF := Lib.hid hF
      have H0 := Lib.hid h0
      clear h0 h1 hE hF
      have q0 := HT.out.1.cell
      have q1 := HT.out.2.1.cell
      have q2 := HT.out.2.2.cell
      have l0 := HT.out.1.lt
      have l1 := HT.out.2.1.lt
      have l2 := HT.out.2.2.lt
      go_wp2_with fail
      refine (imgPrint_no n0 v0 c0 _ E HN0.out HC0.out HE.out H0.out).mono ?_
      rintro e u4 ⟨rfl, hb4⟩
      have hs4 : Below u3.heap.size u3 u4 := (by repeat (first | (with_reducible exact grow_refl _) | (with_reducible assumption) | (with_reducible refine grow_alloc ?_ _) | (with_reducible refine grow_set ?_ (by first | exact Nat.le_refl _ | (simp; done) | (simp; omega) | omega) _) | (with_reducible refine grow_drewN ?_ _) | (with_reducible refine grow_drew ?_) | (with_reducible refine grow_step ?_ (by assumption)) | (with_reducible refine grow_base ?_ (by assumption))))
      have HT := Lib.hid (HT.out.below hs4)
      clear hs4
      have hw4 : Below w.heap.size w u4 := (by repeat (first | (with_reducible exact grow_refl _) | (with_reducible assumption) | (with_reducible refine grow_alloc ?_ _) | (with_reducible refine grow_set ?_ (by first | exact Nat.le_refl _ | (simp; done) | (simp; omega) | omega) _) | (with_reducible refine grow_drewN ?_ _) | (with_reducible refine grow_drew ?_) | (with_reducible refine grow_step ?_ (by assumption)) | (with_reducible refine grow_base ?_ (by assumption))))
      clear q0 q1 q2 l0 l1 l2
      have q0 := HT.out.1.cell
      have q1 := HT.out.2.1.cell
      have q2 := HT.out.2.2.cell
      have l0 := HT.out.1.lt
      have l1 := HT.out.2.1.lt
      have l2 := HT.out.2.2.lt
      go_wp2_with fail
      refine (newer_gen HN0.out HC0.out HN1.out HC1.out _ F rfl HF.out _).mono ?_
      rintro e u5 ⟨rfl, hb5⟩
      have hs5 : Below u4.heap.size u4 u5 := (by repeat (first | (with_reducible exact grow_refl _) | (with_reducible assumption) | (with_reducible refine grow_alloc ?_ _) | (with_reducible refine grow_set ?_ (by first | exact Nat.le_refl _ | (simp; done) | (simp; omega) | omega) _) | (with_reducible refine grow_drewN ?_ _) | (with_reducible refine grow_drew ?_) | (with_reducible refine grow_step ?_ (by assumption)) | (with_reducible refine grow_base ?_ (by assumption))))
      have HT := Lib.hid (HT.out.below hs5)
      clear hs5
      have hw5 : Below w.heap.size w u5 := (by repeat (first | (with_reducible exact grow_refl _) | (with_reducible assumption) | (with_reducible refine grow_alloc ?_ _) | (with_reducible refine grow_set ?_ (by first | exact Nat.le_refl _ | (simp; done) | (simp; omega) | omega) _) | (with_reducible refine grow_drewN ?_ _) | (with_reducible refine grow_drew ?_) | (with_reducible refine grow_step ?_ (by assumption)) | (with_reducible refine grow_base ?_ (by assumption))))
      clear q0 q1 q2 l0 l1 l2
      go_wp2_with fail
      go_ret
      exact ⟨rfl, (by repeat (first | (with_reducible exact grow_refl _) | (with_reducible assumption) | (with_reducible refine grow_alloc ?_ _) | (with_reducible refine grow_set ?_ (by first | exact Nat.le_refl _ | (simp; done) | (simp; omega) | omega) _) | (with_reducible refine grow_drewN ?_ _) | (with_reducible refine grow_drew ?_) | (with_reducible refine grow_step ?_ (by assumption)) | (with_reducible refine grow_base ?_ (by assumption))))⟩
    have H0 := Lib.hid h0
    clear h0
    have q0 := HT.out.1.cell
    have q1 := HT.out.2.1.cell
    have q2 := HT.out.2.2.cell
    have l0 := HT.out.1.lt
    have l1 := HT.out.2.1.lt
    have l2 := HT.out.2.2.lt
    go_wp2_with fail
    refine (imgPrint_yes n0 v0 c0 _ H0.out (HG.out.below (by repeat (first | (with_reducible exact grow_refl _) | (with_reducible assumption) | (with_reducible refine grow_alloc ?_ _) | (with_reducible refine grow_set ?_ (by first | exact Nat.le_refl _ | (simp; done) | (simp; omega) | omega) _) | (with_reducible refine grow_drewN ?_ _) | (with_reducible refine grow_drew ?_) | (with_reducible refine grow_step ?_ (by assumption)) | (with_reducible refine grow_base ?_ (by assumption))))).1).mono ?_
    rintro e u4 ⟨rfl, hb4⟩
    have hs4 : Below u3.heap.size u3 u4 := (by repeat (first | (with_reducible exact grow_refl _) | (with_reducible assumption) | (with_reducible refine grow_alloc ?_ _) | (with_reducible refine grow_set ?_ (by first | exact Nat.le_refl _ | (simp; done) | (simp; omega) | omega) _) | (with_reducible refine grow_drewN ?_ _) | (with_reducible refine grow_drew ?_) | (with_reducible refine grow_step ?_ (by assumption)) | (with_reducible refine grow_base ?_ (by assumption))))
    have HT := Lib.hid (HT.out.below hs4)
    clear hs4
    have hw4 : Below w.heap.size w u4 := (by repeat (first | (with_reducible exact grow_refl _) | (with_reducible assumption) | (with_reducible refine grow_alloc ?_ _) | (with_reducible refine grow_set ?_ (by first | exact Nat.le_refl _ | (simp; done) | (simp; omega) | omega) _) | (with_reducible refine grow_drewN ?_ _) | (with_reducible refine grow_drew ?_) | (with_reducible refine grow_step ?_ (by assumption)) | (with_reducible refine grow_base ?_ (by assumption))))
    clear q0 q1 q2 l0 l1 l2
    have q0 := HT.out.1.cell
    have q1 := HT.out.2.1.cell
    have q2 := HT.out.2.2.cell
    have l0 := HT.out.1.lt
    have l1 := HT.out.2.1.lt
    have l2 := HT.out.2.2.lt
    go_wp2_with fail
    refine (parse_of_line H0.out _ (HG.out.below (by repeat (first | (with_reducible exact grow_refl _) | (with_reducible assumption) | (with_reducible refine grow_alloc ?_ _) | (with_reducible refine grow_set ?_ (by first | exact Nat.le_refl _ | (simp; done) | (simp; omega) | omega) _) | (with_reducible refine grow_drewN ?_ _) | (with_reducible refine grow_drew ?_) | (with_reducible refine grow_step ?_ (by assumption)) | (with_reducible refine grow_base ?_ (by assumption)))))).mono ?_
    rintro e u5 ⟨rfl, hb5⟩
    have hs5 : Below u4.heap.size u4 u5 := (by repeat (first | (with_reducible exact grow_refl _) | (with_reducible assumption) | (with_reducible refine grow_alloc ?_ _) | (with_reducible refine grow_set ?_ (by first | exact Nat.le_refl _ | (simp; done) | (simp; omega) | omega) _) | (with_reducible refine grow_drewN ?_ _) | (with_reducible refine grow_drew ?_) | (with_reducible refine grow_step ?_ (by assumption)) | (with_reducible refine grow_base ?_ (by assumption))))
    have HT := Lib.hid (HT.out.below hs5)
    clear hs5
    have hw5 : Below w.heap.size w u5 := (by repeat (first | (with_reducible exact grow_refl _) | (with_reducible assumption) | (with_reducible refine grow_alloc ?_ _) | (with_reducible refine grow_set ?_ (by first | exact Nat.le_refl _ | (simp; done) | (simp; omega) | omega) _) | (with_reducible refine grow_drewN ?_ _) | (with_reducible refine grow_drew ?_) | (with_reducible refine grow_step ?_ (by assumption)) | (with_reducible refine grow_base ?_ (by assumption))))
    clear q0 q1 q2 l0 l1 l2
    have q0 := HT.out.1.cell
    have q1 := HT.out.2.1.cell
    have q2 := HT.out.2.2.cell
    have l0 := HT.out.1.lt
    have l1 := HT.out.2.1.lt
    have l2 := HT.out.2.2.lt
    go_wp2_with fail
    refine (newer_gen HN0.out HC0.out HN0.out HC0.out false 0 (newB_self n0 v0 c0) (newE_self H0.out) _).mono ?_
    rintro e u6 ⟨rfl, hb6⟩
    have hs6 : Below u5.heap.size u5 u6 := (by repeat (first | (with_reducible exact grow_refl _) | (with_reducible assumption) | (with_reducible refine grow_alloc ?_ _) | (with_reducible refine grow_set ?_ (by first | exact Nat.le_refl _ | (simp; done) | (simp; omega) | omega) _) | (with_reducible refine grow_drewN ?_ _) | (with_reducible refine grow_drew ?_) | (with_reducible refine grow_step ?_ (by assumption)) | (with_reducible refine grow_base ?_ (by assumption))))
    have HT := Lib.hid (HT.out.below hs6)
    clear hs6
    have hw6 : Below w.heap.size w u6 := (by repeat (first | (with_reducible exact grow_refl _) | (with_reducible assumption) | (with_reducible refine grow_alloc ?_ _) | (with_reducible refine grow_set ?_ (by first | exact Nat.le_refl _ | (simp; done) | (simp; omega) | omega) _) | (with_reducible refine grow_drewN ?_ _) | (with_reducible refine grow_drew ?_) | (with_reducible refine grow_step ?_ (by assumption)) | (with_reducible refine grow_base ?_ (by assumption))))
    clear q0 q1 q2 l0 l1 l2
    have HY := Lib.hid ((Box.new u5 31 #[.string n0, .int .i64 v0, .string c0]).below hb6)
    have qY := HY.out.cell
    have lY := HY.out.lt
    have n1_ := fun w => neIm n0 v0 c0 HN0.out HC0.out i0 w
    by_cases h1 : newE n0 v0 c0 n1 v1 c1 = 0
    rotate_left
    · obtain ⟨F, hF⟩ : ∃ F, newE n0 v0 c0 n1 v1 c1 = F := ⟨_, rfl⟩
      rw [hF] at h1
      have t1 : (F != 0) = true := by simp [h1]
      have HF := Lib.hid hF
      clear h1 hF
      have q0 := HT.out.1.cell
      have q1 := HT.out.2.1.cell
      have q2 := HT.out.2.2.cell
      have l0 := HT.out.1.lt
      have l1 := HT.out.2.1.lt
      have l2 := HT.out.2.2.lt
      go_wp2_with fail
      refine (newer_gen HN0.out HC0.out HN1.out HC1.out _ F rfl HF.out _).mono ?_
      rintro e u7 ⟨rfl, hb7⟩
      have hs7 : Below u6.heap.size u6 u7 := (by repeat (first | (with_reducible exact grow_refl _) | (with_reducible assumption) | (with_reducible refine grow_alloc ?_ _) | (with_reducible refine grow_set ?_ (by first | exact Nat.le_refl _ | (simp; done) | (simp; omega) | omega) _) | (with_reducible refine grow_drewN ?_ _) | (with_reducible refine grow_drew ?_) | (with_reducible refine grow_step ?_ (by assumption)) | (with_reducible refine grow_base ?_ (by assumption))))
      have HT := Lib.hid (HT.out.below hs7)
      clear hs7
      have hw7 : Below w.heap.size w u7 := (by repeat (first | (with_reducible exact grow_refl _) | (with_reducible assumption) | (with_reducible refine grow_alloc ?_ _) | (with_reducible refine grow_set ?_ (by first | exact Nat.le_refl _ | (simp; done) | (simp; omega) | omega) _) | (with_reducible refine grow_drewN ?_ _) | (with_reducible refine grow_drew ?_) | (with_reducible refine grow_step ?_ (by assumption)) | (with_reducible refine grow_base ?_ (by assumption))))
      clear q0 q1 q2 l0 l1 l2
      go_wp2_with fail
      go_ret
      exact ⟨rfl, (by repeat (first | (with_reducible exact grow_refl _) | (with_reducible assumption) | (with_reducible refine grow_alloc ?_ _) | (with_reducible refine grow_set ?_ (by first | exact Nat.le_refl _ | (simp; done) | (simp; omega) | omega) _) | (with_reducible refine grow_drewN ?_ _) | (with_reducible refine grow_drew ?_) | (with_reducible refine grow_step ?_ (by assumption)) | (with_reducible refine grow_base ?_ (by assumption))))⟩
    have H1 := Lib.hid h1
    have H2 := Lib.hid (newE_turn h1)
    clear h1
    obtain ⟨a, ha⟩ : ∃ a, newB n0 v0 c0 n1 v1 c1 = a := ⟨_, rfl⟩
    obtain ⟨b, hb⟩ : ∃ b, newB n1 v1 c1 n0 v0 c0 = b := ⟨_, rfl⟩
    have HAB : Hid (a = true → b = false) := Lib.hid (by rw [← ha, ← hb]; exact newB_not H1.out H2.out)
    have HA := Lib.hid ha
    have HB := Lib.hid hb
    clear ha hb
    have q0 := HT.out.1.cell
    have q1 := HT.out.2.1.cell
    have q2 := HT.out.2.2.cell
    have l0 := HT.out.1.lt
    have l1 := HT.out.2.1.lt
    have l2 := HT.out.2.2.lt
    go_wp2_with fail
    refine (newer_gen HN0.out HC0.out HN1.out HC1.out a 0 HA.out H1.out _).mono ?_
    rintro e u7 ⟨rfl, hb7⟩
    have hs7 : Below u6.heap.size u6 u7 := (by repeat (first | (with_reducible exact grow_refl _) | (with_reducible assumption) | (with_reducible refine grow_alloc ?_ _) | (with_reducible refine grow_set ?_ (by first | exact Nat.le_refl _ | (simp; done) | (simp; omega) | omega) _) | (with_reducible refine grow_drewN ?_ _) | (with_reducible refine grow_drew ?_) | (with_reducible refine grow_step ?_ (by assumption)) | (with_reducible refine grow_base ?_ (by assumption))))
    have HT := Lib.hid (HT.out.below hs7)
    clear hs7
    have hw7 : Below w.heap.size w u7 := (by repeat (first | (with_reducible exact grow_refl _) | (with_reducible assumption) | (with_reducible refine grow_alloc ?_ _) | (with_reducible refine grow_set ?_ (by first | exact Nat.le_refl _ | (simp; done) | (simp; omega) | omega) _) | (with_reducible refine grow_drewN ?_ _) | (with_reducible refine grow_drew ?_) | (with_reducible refine grow_step ?_ (by assumption)) | (with_reducible refine grow_base ?_ (by assumption))))
    clear q0 q1 q2 l0 l1 l2
    have q0 := HT.out.1.cell
    have q1 := HT.out.2.1.cell
    have q2 := HT.out.2.2.cell
    have l0 := HT.out.1.lt
    have l1 := HT.out.2.1.lt
    have l2 := HT.out.2.2.lt
    go_wp2_with fail
    refine (newer_gen HN1.out HC1.out HN0.out HC0.out b 0 HB.out H2.out _).mono ?_
    rintro e u8 ⟨rfl, hb8⟩
    have hs8 : Below u7.heap.size u7 u8 := (by repeat (first | (with_reducible exact grow_refl _) | (with_reducible assumption) | (with_reducible refine grow_alloc ?_ _) | (with_reducible refine grow_set ?_ (by first | exact Nat.le_refl _ | (simp; done) | (simp; omega) | omega) _) | (with_reducible refine grow_drewN ?_ _) | (with_reducible refine grow_drew ?_) | (with_reducible refine grow_step ?_ (by assumption)) | (with_reducible refine grow_base ?_ (by assumption))))
    have HT := Lib.hid (HT.out.below hs8)
    clear hs8
    have hw8 : Below w.heap.size w u8 := (by repeat (first | (with_reducible exact grow_refl _) | (with_reducible assumption) | (with_reducible refine grow_alloc ?_ _) | (with_reducible refine grow_set ?_ (by first | exact Nat.le_refl _ | (simp; done) | (simp; omega) | omega) _) | (with_reducible refine grow_drewN ?_ _) | (with_reducible refine grow_drew ?_) | (with_reducible refine grow_step ?_ (by assumption)) | (with_reducible refine grow_base ?_ (by assumption))))
    clear q0 q1 q2 l0 l1 l2
    by_cases h3 : newE n1 v1 c1 n2 v2 c2 = 0
    rotate_left
    · obtain ⟨F, hF⟩ : ∃ F, newE n1 v1 c1 n2 v2 c2 = F := ⟨_, rfl⟩
      rw [hF] at h3
      have t1 : (F != 0) = true := by simp [h3]
      have HF := Lib.hid hF
      clear h3 hF
      cases a
      · have q0 := HT.out.1.cell
        have q1 := HT.out.2.1.cell
        have q2 := HT.out.2.2.cell
        have l0 := HT.out.1.lt
        have l1 := HT.out.2.1.lt
        have l2 := HT.out.2.2.lt
        go_wp2_with fail
        refine (newer_gen HN1.out HC1.out HN2.out HC2.out _ F rfl HF.out _).mono ?_
        rintro e u9 ⟨rfl, hb9⟩
        have hs9 : Below u8.heap.size u8 u9 := (by repeat (first | (with_reducible exact grow_refl _) | (with_reducible assumption) | (with_reducible refine grow_alloc ?_ _) | (with_reducible refine grow_set ?_ (by first | exact Nat.le_refl _ | (simp; done) | (simp; omega) | omega) _) | (with_reducible refine grow_drewN ?_ _) | (with_reducible refine grow_drew ?_) | (with_reducible refine grow_step ?_ (by assumption)) | (with_reducible refine grow_base ?_ (by assumption))))
        have HT := Lib.hid (HT.out.below hs9)
        clear hs9
        have hw9 : Below w.heap.size w u9 := (by repeat (first | (with_reducible exact grow_refl _) | (with_reducible assumption) | (with_reducible refine grow_alloc ?_ _) | (with_reducible refine grow_set ?_ (by first | exact Nat.le_refl _ | (simp; done) | (simp; omega) | omega) _) | (with_reducible refine grow_drewN ?_ _) | (with_reducible refine grow_drew ?_) | (with_reducible refine grow_step ?_ (by assumption)) | (with_reducible refine grow_base ?_ (by assumption))))
        clear q0 q1 q2 l0 l1 l2
        go_wp2_with fail
        go_ret
        exact ⟨rfl, (by repeat (first | (with_reducible exact grow_refl _) | (with_reducible assumption) | (with_reducible refine grow_alloc ?_ _) | (with_reducible refine grow_set ?_ (by first | exact Nat.le_refl _ | (simp; done) | (simp; omega) | omega) _) | (with_reducible refine grow_drewN ?_ _) | (with_reducible refine grow_drew ?_) | (with_reducible refine grow_step ?_ (by assumption)) | (with_reducible refine grow_base ?_ (by assumption))))⟩
      · have hb0 : b = false := by have := HAB.out; simpa using this
        subst hb0
        have q0 := HT.out.1.cell
        have q1 := HT.out.2.1.cell
        have q2 := HT.out.2.2.cell
        have l0 := HT.out.1.lt
        have l1 := HT.out.2.1.lt
        have l2 := HT.out.2.2.lt
        go_wp2_with fail
        refine (newer_gen HN1.out HC1.out HN2.out HC2.out _ F rfl HF.out _).mono ?_
        rintro e u9 ⟨rfl, hb9⟩
        have hs9 : Below u8.heap.size u8 u9 := (by repeat (first | (with_reducible exact grow_refl _) | (with_reducible assumption) | (with_reducible refine grow_alloc ?_ _) | (with_reducible refine grow_set ?_ (by first | exact Nat.le_refl _ | (simp; done) | (simp; omega) | omega) _) | (with_reducible refine grow_drewN ?_ _) | (with_reducible refine grow_drew ?_) | (with_reducible refine grow_step ?_ (by assumption)) | (with_reducible refine grow_base ?_ (by assumption))))
        have HT := Lib.hid (HT.out.below hs9)
        clear hs9
        have hw9 : Below w.heap.size w u9 := (by repeat (first | (with_reducible exact grow_refl _) | (with_reducible assumption) | (with_reducible refine grow_alloc ?_ _) | (with_reducible refine grow_set ?_ (by first | exact Nat.le_refl _ | (simp; done) | (simp; omega) | omega) _) | (with_reducible refine grow_drewN ?_ _) | (with_reducible refine grow_drew ?_) | (with_reducible refine grow_step ?_ (by assumption)) | (with_reducible refine grow_base ?_ (by assumption))))
        clear q0 q1 q2 l0 l1 l2
        go_wp2_with fail
        go_ret
        exact ⟨rfl, (by repeat (first | (with_reducible exact grow_refl _) | (with_reducible assumption) | (with_reducible refine grow_alloc ?_ _) | (with_reducible refine grow_set ?_ (by first | exact Nat.le_refl _ | (simp; done) | (simp; omega) | omega) _) | (with_reducible refine grow_drewN ?_ _) | (with_reducible refine grow_drew ?_) | (with_reducible refine grow_step ?_ (by assumption)) | (with_reducible refine grow_base ?_ (by assumption))))⟩
    have H3 := Lib.hid h3
    have H4 := Lib.hid (newE_far H1.out h3)
    clear h3
    obtain ⟨c, hc⟩ : ∃ c, newB n1 v1 c1 n2 v2 c2 = c := ⟨_, rfl⟩
    obtain ⟨d, hd⟩ : ∃ d, newB n0 v0 c0 n2 v2 c2 = d := ⟨_, rfl⟩
    have HACD : Hid (a = true → c = true → d = true) := Lib.hid (by rw [← HA.out, ← hc, ← hd]; exact newB_far H1.out H3.out H4.out)
    have HC := Lib.hid hc
    have HD := Lib.hid hd
    clear hc hd
    cases a
    · have q0 := HT.out.1.cell
      have q1 := HT.out.2.1.cell
      have q2 := HT.out.2.2.cell
      have l0 := HT.out.1.lt
      have l1 := HT.out.2.1.lt
      have l2 := HT.out.2.2.lt
      go_wp2_with fail
      refine (newer_gen HN1.out HC1.out HN2.out HC2.out c 0 HC.out H3.out _).mono ?_
      rintro e u9 ⟨rfl, hb9⟩
      have hs9 : Below u8.heap.size u8 u9 := (by repeat (first | (with_reducible exact grow_refl _) | (with_reducible assumption) | (with_reducible refine grow_alloc ?_ _) | (with_reducible refine grow_set ?_ (by first | exact Nat.le_refl _ | (simp; done) | (simp; omega) | omega) _) | (with_reducible refine grow_drewN ?_ _) | (with_reducible refine grow_drew ?_) | (with_reducible refine grow_step ?_ (by assumption)) | (with_reducible refine grow_base ?_ (by assumption))))
      have HT := Lib.hid (HT.out.below hs9)
      clear hs9
      have hw9 : Below w.heap.size w u9 := (by repeat (first | (with_reducible exact grow_refl _) | (with_reducible assumption) | (with_reducible refine grow_alloc ?_ _) | (with_reducible refine grow_set ?_ (by first | exact Nat.le_refl _ | (simp; done) | (simp; omega) | omega) _) | (with_reducible refine grow_drewN ?_ _) | (with_reducible refine grow_drew ?_) | (with_reducible refine grow_step ?_ (by assumption)) | (with_reducible refine grow_base ?_ (by assumption))))
      clear q0 q1 q2 l0 l1 l2
      have q0 := HT.out.1.cell
      have q1 := HT.out.2.1.cell
      have q2 := HT.out.2.2.cell
      have l0 := HT.out.1.lt
      have l1 := HT.out.2.1.lt
      have l2 := HT.out.2.2.lt
      go_wp2_with fail
      refine (newer_gen HN0.out HC0.out HN2.out HC2.out d 0 HD.out H4.out _).mono ?_
      rintro e u10 ⟨rfl, hb10⟩
      have hs10 : Below u9.heap.size u9 u10 := (by repeat (first | (with_reducible exact grow_refl _) | (with_reducible assumption) | (with_reducible refine grow_alloc ?_ _) | (with_reducible refine grow_set ?_ (by first | exact Nat.le_refl _ | (simp; done) | (simp; omega) | omega) _) | (with_reducible refine grow_drewN ?_ _) | (with_reducible refine grow_drew ?_) | (with_reducible refine grow_step ?_ (by assumption)) | (with_reducible refine grow_base ?_ (by assumption))))
      have HT := Lib.hid (HT.out.below hs10)
      clear hs10
      have hw10 : Below w.heap.size w u10 := (by repeat (first | (with_reducible exact grow_refl _) | (with_reducible assumption) | (with_reducible refine grow_alloc ?_ _) | (with_reducible refine grow_set ?_ (by first | exact Nat.le_refl _ | (simp; done) | (simp; omega) | omega) _) | (with_reducible refine grow_drewN ?_ _) | (with_reducible refine grow_drew ?_) | (with_reducible refine grow_step ?_ (by assumption)) | (with_reducible refine grow_base ?_ (by assumption))))
      clear q0 q1 q2 l0 l1 l2
      go_wp2_with fail
      go_ret
      exact ⟨rfl, (by repeat (first | (with_reducible exact grow_refl _) | (with_reducible assumption) | (with_reducible refine grow_alloc ?_ _) | (with_reducible refine grow_set ?_ (by first | exact Nat.le_refl _ | (simp; done) | (simp; omega) | omega) _) | (with_reducible refine grow_drewN ?_ _) | (with_reducible refine grow_drew ?_) | (with_reducible refine grow_step ?_ (by assumption)) | (with_reducible refine grow_base ?_ (by assumption))))⟩
    · have hb0 : b = false := by have := HAB.out; simpa using this
      subst hb0
      have q0 := HT.out.1.cell
      have q1 := HT.out.2.1.cell
      have q2 := HT.out.2.2.cell
      have l0 := HT.out.1.lt
      have l1 := HT.out.2.1.lt
      have l2 := HT.out.2.2.lt
      go_wp2_with fail
      refine (newer_gen HN1.out HC1.out HN2.out HC2.out c 0 HC.out H3.out _).mono ?_
      rintro e u9 ⟨rfl, hb9⟩
      have hs9 : Below u8.heap.size u8 u9 := (by repeat (first | (with_reducible exact grow_refl _) | (with_reducible assumption) | (with_reducible refine grow_alloc ?_ _) | (with_reducible refine grow_set ?_ (by first | exact Nat.le_refl _ | (simp; done) | (simp; omega) | omega) _) | (with_reducible refine grow_drewN ?_ _) | (with_reducible refine grow_drew ?_) | (with_reducible refine grow_step ?_ (by assumption)) | (with_reducible refine grow_base ?_ (by assumption))))
      have HT := Lib.hid (HT.out.below hs9)
      clear hs9
      have hw9 : Below w.heap.size w u9 := (by repeat (first | (with_reducible exact grow_refl _) | (with_reducible assumption) | (with_reducible refine grow_alloc ?_ _) | (with_reducible refine grow_set ?_ (by first | exact Nat.le_refl _ | (simp; done) | (simp; omega) | omega) _) | (with_reducible refine grow_drewN ?_ _) | (with_reducible refine grow_drew ?_) | (with_reducible refine grow_step ?_ (by assumption)) | (with_reducible refine grow_base ?_ (by assumption))))
      clear q0 q1 q2 l0 l1 l2
      cases c
      · have q0 := HT.out.1.cell
        have q1 := HT.out.2.1.cell
        have q2 := HT.out.2.2.cell
        have l0 := HT.out.1.lt
        have l1 := HT.out.2.1.lt
        have l2 := HT.out.2.2.lt
        go_wp2_with fail
        refine (newer_gen HN0.out HC0.out HN2.out HC2.out d 0 HD.out H4.out _).mono ?_
        rintro e u10 ⟨rfl, hb10⟩
        have hs10 : Below u9.heap.size u9 u10 := (by repeat (first | (with_reducible exact grow_refl _) | (with_reducible assumption) | (with_reducible refine grow_alloc ?_ _) | (with_reducible refine grow_set ?_ (by first | exact Nat.le_refl _ | (simp; done) | (simp; omega) | omega) _) | (with_reducible refine grow_drewN ?_ _) | (with_reducible refine grow_drew ?_) | (with_reducible refine grow_step ?_ (by assumption)) | (with_reducible refine grow_base ?_ (by assumption))))
        have HT := Lib.hid (HT.out.below hs10)
        clear hs10
        have hw10 : Below w.heap.size w u10 := (by repeat (first | (with_reducible exact grow_refl _) | (with_reducible assumption) | (with_reducible refine grow_alloc ?_ _) | (with_reducible refine grow_set ?_ (by first | exact Nat.le_refl _ | (simp; done) | (simp; omega) | omega) _) | (with_reducible refine grow_drewN ?_ _) | (with_reducible refine grow_drew ?_) | (with_reducible refine grow_step ?_ (by assumption)) | (with_reducible refine grow_base ?_ (by assumption))))
        clear q0 q1 q2 l0 l1 l2
        go_wp2_with fail
        go_ret
        exact ⟨rfl, (by repeat (first | (with_reducible exact grow_refl _) | (with_reducible assumption) | (with_reducible refine grow_alloc ?_ _) | (with_reducible refine grow_set ?_ (by first | exact Nat.le_refl _ | (simp; done) | (simp; omega) | omega) _) | (with_reducible refine grow_drewN ?_ _) | (with_reducible refine grow_drew ?_) | (with_reducible refine grow_step ?_ (by assumption)) | (with_reducible refine grow_base ?_ (by assumption))))⟩
      · have hd0 : d = true := by have := HACD.out; simpa using this
        subst hd0
        have q0 := HT.out.1.cell
        have q1 := HT.out.2.1.cell
        have q2 := HT.out.2.2.cell
        have l0 := HT.out.1.lt
        have l1 := HT.out.2.1.lt
        have l2 := HT.out.2.2.lt
        go_wp2_with fail
        refine (newer_gen HN0.out HC0.out HN2.out HC2.out true 0 HD.out H4.out _).mono ?_
        rintro e u10 ⟨rfl, hb10⟩
        have hs10 : Below u9.heap.size u9 u10 := (by repeat (first | (with_reducible exact grow_refl _) | (with_reducible assumption) | (with_reducible refine grow_alloc ?_ _) | (with_reducible refine grow_set ?_ (by first | exact Nat.le_refl _ | (simp; done) | (simp; omega) | omega) _) | (with_reducible refine grow_drewN ?_ _) | (with_reducible refine grow_drew ?_) | (with_reducible refine grow_step ?_ (by assumption)) | (with_reducible refine grow_base ?_ (by assumption))))
        have HT := Lib.hid (HT.out.below hs10)
        clear hs10
        have hw10 : Below w.heap.size w u10 := (by repeat (first | (with_reducible exact grow_refl _) | (with_reducible assumption) | (with_reducible refine grow_alloc ?_ _) | (with_reducible refine grow_set ?_ (by first | exact Nat.le_refl _ | (simp; done) | (simp; omega) | omega) _) | (with_reducible refine grow_drewN ?_ _) | (with_reducible refine grow_drew ?_) | (with_reducible refine grow_step ?_ (by assumption)) | (with_reducible refine grow_base ?_ (by assumption))))
        clear q0 q1 q2 l0 l1 l2
        go_wp2_with fail
        go_ret
        exact ⟨rfl, (by repeat (first | (with_reducible exact grow_refl _) | (with_reducible assumption) | (with_reducible refine grow_alloc ?_ _) | (with_reducible refine grow_set ?_ (by first | exact Nat.le_refl _ | (simp; done) | (simp; omega) | omega) _) | (with_reducible refine grow_drewN ?_ _) | (with_reducible refine grow_drew ?_) | (with_reducible refine grow_step ?_ (by assumption)) | (with_reducible refine grow_base ?_ (by assumption))))⟩
  · rw [hp] at HP
    have t9 : (e == 0) = false := by simp [he]
    clear he hp
    go_enter Tryd.func4, Tryd.ntmps4
    go_wp2_with fail
    refine (parse_fact _ (HG.out.below (by repeat (first | (with_reducible exact grow_refl _) | (with_reducible assumption) | (with_reducible refine grow_alloc ?_ _) | (with_reducible refine grow_set ?_ (by first | exact Nat.le_refl _ | (simp; done) | (simp; omega) | omega) _) | (with_reducible refine grow_drewN ?_ _) | (with_reducible refine grow_drew ?_) | (with_reducible refine grow_step ?_ (by assumption)) | (with_reducible refine grow_base ?_ (by assumption)))))).mono ?_
    rintro e u1 ⟨rfl, hb1⟩
    have HT := Lib.hid ((Three.new w n0 v0 c0 n1 v1 c1 n2 v2 c2).below hb1)
    have hw1 : Below w.heap.size w u1 := (by repeat (first | (with_reducible exact grow_refl _) | (with_reducible assumption) | (with_reducible refine grow_alloc ?_ _) | (with_reducible refine grow_set ?_ (by first | exact Nat.le_refl _ | (simp; done) | (simp; omega) | omega) _) | (with_reducible refine grow_drewN ?_ _) | (with_reducible refine grow_drew ?_) | (with_reducible refine grow_step ?_ (by assumption)) | (with_reducible refine grow_base ?_ (by assumption))))
    have q0 := HT.out.1.cell
    have q1 := HT.out.2.1.cell
    have q2 := HT.out.2.2.cell
    have l0 := HT.out.1.lt
    have l1 := HT.out.2.1.lt
    have l2 := HT.out.2.2.lt
    go_wp2_with fail
    refine (HP.out _ (HG.out.below (by repeat (first | (with_reducible exact grow_refl _) | (with_reducible assumption) | (with_reducible refine grow_alloc ?_ _) | (with_reducible refine grow_set ?_ (by first | exact Nat.le_refl _ | (simp; done) | (simp; omega) | omega) _) | (with_reducible refine grow_drewN ?_ _) | (with_reducible refine grow_drew ?_) | (with_reducible refine grow_step ?_ (by assumption)) | (with_reducible refine grow_base ?_ (by assumption)))))).mono ?_
    rintro e u2 ⟨rfl, hb2⟩
    have hs2 : Below u1.heap.size u1 u2 := (by repeat (first | (with_reducible exact grow_refl _) | (with_reducible assumption) | (with_reducible refine grow_alloc ?_ _) | (with_reducible refine grow_set ?_ (by first | exact Nat.le_refl _ | (simp; done) | (simp; omega) | omega) _) | (with_reducible refine grow_drewN ?_ _) | (with_reducible refine grow_drew ?_) | (with_reducible refine grow_step ?_ (by assumption)) | (with_reducible refine grow_base ?_ (by assumption))))
    have HT := Lib.hid (HT.out.below hs2)
    clear hs2
    have hw2 : Below w.heap.size w u2 := (by repeat (first | (with_reducible exact grow_refl _) | (with_reducible assumption) | (with_reducible refine grow_alloc ?_ _) | (with_reducible refine grow_set ?_ (by first | exact Nat.le_refl _ | (simp; done) | (simp; omega) | omega) _) | (with_reducible refine grow_drewN ?_ _) | (with_reducible refine grow_drew ?_) | (with_reducible refine grow_step ?_ (by assumption)) | (with_reducible refine grow_base ?_ (by assumption))))
    clear q0 q1 q2 l0 l1 l2
    by_cases h0 : imgE n0 v0 c0 = 0
    rotate_left
    · have h1 : newE n0 v0 c0 n1 v1 c1 ≠ 0 := fun e => h0 (newE_zero.1 e).1
      obtain ⟨E, hE⟩ : ∃ E, imgE n0 v0 c0 = E := ⟨_, rfl⟩
      obtain ⟨F, hF⟩ : ∃ F, newE n0 v0 c0 n1 v1 c1 = F := ⟨_, rfl⟩
      rw [hE] at h0
      rw [hF] at h1
      have t0 : (E == 0) = false := by simp [h0]
      have t1 : (F != 0) = true := by simp [h1]
      have HE := Lib.hid hE
      have HF := Lib.hid hF
      have H0 := Lib.hid h0
      clear h0 h1 hE hF
      have q0 := HT.out.1.cell
      have q1 := HT.out.2.1.cell
      have q2 := HT.out.2.2.cell
      have l0 := HT.out.1.lt
      have l1 := HT.out.2.1.lt
      have l2 := HT.out.2.2.lt
      go_wp2_with fail
      refine (imgPrint_no n0 v0 c0 _ E HN0.out HC0.out HE.out H0.out).mono ?_
      rintro e u3 ⟨rfl, hb3⟩
      have hs3 : Below u2.heap.size u2 u3 := (by repeat (first | (with_reducible exact grow_refl _) | (with_reducible assumption) | (with_reducible refine grow_alloc ?_ _) | (with_reducible refine grow_set ?_ (by first | exact Nat.le_refl _ | (simp; done) | (simp; omega) | omega) _) | (with_reducible refine grow_drewN ?_ _) | (with_reducible refine grow_drew ?_) | (with_reducible refine grow_step ?_ (by assumption)) | (with_reducible refine grow_base ?_ (by assumption))))
      have HT := Lib.hid (HT.out.below hs3)
      clear hs3
      have hw3 : Below w.heap.size w u3 := (by repeat (first | (with_reducible exact grow_refl _) | (with_reducible assumption) | (with_reducible refine grow_alloc ?_ _) | (with_reducible refine grow_set ?_ (by first | exact Nat.le_refl _ | (simp; done) | (simp; omega) | omega) _) | (with_reducible refine grow_drewN ?_ _) | (with_reducible refine grow_drew ?_) | (with_reducible refine grow_step ?_ (by assumption)) | (with_reducible refine grow_base ?_ (by assumption))))
      clear q0 q1 q2 l0 l1 l2
      have q0 := HT.out.1.cell
      have q1 := HT.out.2.1.cell
      have q2 := HT.out.2.2.cell
      have l0 := HT.out.1.lt
      have l1 := HT.out.2.1.lt
      have l2 := HT.out.2.2.lt
      go_wp2_with fail
      refine (newer_gen HN0.out HC0.out HN1.out HC1.out _ F rfl HF.out _).mono ?_
      rintro e u4 ⟨rfl, hb4⟩
      have hs4 : Below u3.heap.size u3 u4 := (by repeat (first | (with_reducible exact grow_refl _) | (with_reducible assumption) | (with_reducible refine grow_alloc ?_ _) | (with_reducible refine grow_set ?_ (by first | exact Nat.le_refl _ | (simp; done) | (simp; omega) | omega) _) | (with_reducible refine grow_drewN ?_ _) | (with_reducible refine grow_drew ?_) | (with_reducible refine grow_step ?_ (by assumption)) | (with_reducible refine grow_base ?_ (by assumption))))
      have HT := Lib.hid (HT.out.below hs4)
      clear hs4
      have hw4 : Below w.heap.size w u4 := (by repeat (first | (with_reducible exact grow_refl _) | (with_reducible assumption) | (with_reducible refine grow_alloc ?_ _) | (with_reducible refine grow_set ?_ (by first | exact Nat.le_refl _ | (simp; done) | (simp; omega) | omega) _) | (with_reducible refine grow_drewN ?_ _) | (with_reducible refine grow_drew ?_) | (with_reducible refine grow_step ?_ (by assumption)) | (with_reducible refine grow_base ?_ (by assumption))))
      clear q0 q1 q2 l0 l1 l2
      go_wp2_with fail
      go_ret
      exact ⟨rfl, (by repeat (first | (with_reducible exact grow_refl _) | (with_reducible assumption) | (with_reducible refine grow_alloc ?_ _) | (with_reducible refine grow_set ?_ (by first | exact Nat.le_refl _ | (simp; done) | (simp; omega) | omega) _) | (with_reducible refine grow_drewN ?_ _) | (with_reducible refine grow_drew ?_) | (with_reducible refine grow_step ?_ (by assumption)) | (with_reducible refine grow_base ?_ (by assumption))))⟩
    have H0 := Lib.hid h0
    clear h0
    have q0 := HT.out.1.cell
    have q1 := HT.out.2.1.cell
    have q2 := HT.out.2.2.cell
    have l0 := HT.out.1.lt
    have l1 := HT.out.2.1.lt
    have l2 := HT.out.2.2.lt
    go_wp2_with fail
    refine (imgPrint_yes n0 v0 c0 _ H0.out (HG.out.below (by repeat (first | (with_reducible exact grow_refl _) | (with_reducible assumption) | (with_reducible refine grow_alloc ?_ _) | (with_reducible refine grow_set ?_ (by first | exact Nat.le_refl _ | (simp; done) | (simp; omega) | omega) _) | (with_reducible refine grow_drewN ?_ _) | (with_reducible refine grow_drew ?_) | (with_reducible refine grow_step ?_ (by assumption)) | (with_reducible refine grow_base ?_ (by assumption))))).1).mono ?_
    rintro e u3 ⟨rfl, hb3⟩
    have hs3 : Below u2.heap.size u2 u3 := (by repeat (first | (with_reducible exact grow_refl _) | (with_reducible assumption) | (with_reducible refine grow_alloc ?_ _) | (with_reducible refine grow_set ?_ (by first | exact Nat.le_refl _ | (simp; done) | (simp; omega) | omega) _) | (with_reducible refine grow_drewN ?_ _) | (with_reducible refine grow_drew ?_) | (with_reducible refine grow_step ?_ (by assumption)) | (with_reducible refine grow_base ?_ (by assumption))))
    have HT := Lib.hid (HT.out.below hs3)
    clear hs3
    have hw3 : Below w.heap.size w u3 := (by repeat (first | (with_reducible exact grow_refl _) | (with_reducible assumption) | (with_reducible refine grow_alloc ?_ _) | (with_reducible refine grow_set ?_ (by first | exact Nat.le_refl _ | (simp; done) | (simp; omega) | omega) _) | (with_reducible refine grow_drewN ?_ _) | (with_reducible refine grow_drew ?_) | (with_reducible refine grow_step ?_ (by assumption)) | (with_reducible refine grow_base ?_ (by assumption))))
    clear q0 q1 q2 l0 l1 l2
    have q0 := HT.out.1.cell
    have q1 := HT.out.2.1.cell
    have q2 := HT.out.2.2.cell
    have l0 := HT.out.1.lt
    have l1 := HT.out.2.1.lt
    have l2 := HT.out.2.2.lt
    go_wp2_with fail
    refine (parse_of_line H0.out _ (HG.out.below (by repeat (first | (with_reducible exact grow_refl _) | (with_reducible assumption) | (with_reducible refine grow_alloc ?_ _) | (with_reducible refine grow_set ?_ (by first | exact Nat.le_refl _ | (simp; done) | (simp; omega) | omega) _) | (with_reducible refine grow_drewN ?_ _) | (with_reducible refine grow_drew ?_) | (with_reducible refine grow_step ?_ (by assumption)) | (with_reducible refine grow_base ?_ (by assumption)))))).mono ?_
    rintro e u4 ⟨rfl, hb4⟩
    have hs4 : Below u3.heap.size u3 u4 := (by repeat (first | (with_reducible exact grow_refl _) | (with_reducible assumption) | (with_reducible refine grow_alloc ?_ _) | (with_reducible refine grow_set ?_ (by first | exact Nat.le_refl _ | (simp; done) | (simp; omega) | omega) _) | (with_reducible refine grow_drewN ?_ _) | (with_reducible refine grow_drew ?_) | (with_reducible refine grow_step ?_ (by assumption)) | (with_reducible refine grow_base ?_ (by assumption))))
    have HT := Lib.hid (HT.out.below hs4)
    clear hs4
    have hw4 : Below w.heap.size w u4 := (by repeat (first | (with_reducible exact grow_refl _) | (with_reducible assumption) | (with_reducible refine grow_alloc ?_ _) | (with_reducible refine grow_set ?_ (by first | exact Nat.le_refl _ | (simp; done) | (simp; omega) | omega) _) | (with_reducible refine grow_drewN ?_ _) | (with_reducible refine grow_drew ?_) | (with_reducible refine grow_step ?_ (by assumption)) | (with_reducible refine grow_base ?_ (by assumption))))
    clear q0 q1 q2 l0 l1 l2
    have q0 := HT.out.1.cell
    have q1 := HT.out.2.1.cell
    have q2 := HT.out.2.2.cell
    have l0 := HT.out.1.lt
    have l1 := HT.out.2.1.lt
    have l2 := HT.out.2.2.lt
    go_wp2_with fail
    refine (newer_gen HN0.out HC0.out HN0.out HC0.out false 0 (newB_self n0 v0 c0) (newE_self H0.out) _).mono ?_
    rintro e u5 ⟨rfl, hb5⟩
    have hs5 : Below u4.heap.size u4 u5 := (by repeat (first | (with_reducible exact grow_refl _) | (with_reducible assumption) | (with_reducible refine grow_alloc ?_ _) | (with_reducible refine grow_set ?_ (by first | exact Nat.le_refl _ | (simp; done) | (simp; omega) | omega) _) | (with_reducible refine grow_drewN ?_ _) | (with_reducible refine grow_drew ?_) | (with_reducible refine grow_step ?_ (by assumption)) | (with_reducible refine grow_base ?_ (by assumption))))
    have HT := Lib.hid (HT.out.below hs5)
    clear hs5
    have hw5 : Below w.heap.size w u5 := (by repeat (first | (with_reducible exact grow_refl _) | (with_reducible assumption) | (with_reducible refine grow_alloc ?_ _) | (with_reducible refine grow_set ?_ (by first | exact Nat.le_refl _ | (simp; done) | (simp; omega) | omega) _) | (with_reducible refine grow_drewN ?_ _) | (with_reducible refine grow_drew ?_) | (with_reducible refine grow_step ?_ (by assumption)) | (with_reducible refine grow_base ?_ (by assumption))))
    clear q0 q1 q2 l0 l1 l2
    have HY := Lib.hid ((Box.new u4 31 #[.string n0, .int .i64 v0, .string c0]).below hb5)
    have qY := HY.out.cell
    have lY := HY.out.lt
    have n1_ := fun w => neIm n0 v0 c0 HN0.out HC0.out i0 w
    by_cases h1 : newE n0 v0 c0 n1 v1 c1 = 0
    rotate_left
    · obtain ⟨F, hF⟩ : ∃ F, newE n0 v0 c0 n1 v1 c1 = F := ⟨_, rfl⟩
      rw [hF] at h1
      have t1 : (F != 0) = true := by simp [h1]
      have HF := Lib.hid hF
      clear h1 hF
      have q0 := HT.out.1.cell
      have q1 := HT.out.2.1.cell
      have q2 := HT.out.2.2.cell
      have l0 := HT.out.1.lt
      have l1 := HT.out.2.1.lt
      have l2 := HT.out.2.2.lt
      go_wp2_with fail
      refine (newer_gen HN0.out HC0.out HN1.out HC1.out _ F rfl HF.out _).mono ?_
      rintro e u6 ⟨rfl, hb6⟩
      have hs6 : Below u5.heap.size u5 u6 := (by repeat (first | (with_reducible exact grow_refl _) | (with_reducible assumption) | (with_reducible refine grow_alloc ?_ _) | (with_reducible refine grow_set ?_ (by first | exact Nat.le_refl _ | (simp; done) | (simp; omega) | omega) _) | (with_reducible refine grow_drewN ?_ _) | (with_reducible refine grow_drew ?_) | (with_reducible refine grow_step ?_ (by assumption)) | (with_reducible refine grow_base ?_ (by assumption))))
      have HT := Lib.hid (HT.out.below hs6)
      clear hs6
      have hw6 : Below w.heap.size w u6 := (by repeat (first | (with_reducible exact grow_refl _) | (with_reducible assumption) | (with_reducible refine grow_alloc ?_ _) | (with_reducible refine grow_set ?_ (by first | exact Nat.le_refl _ | (simp; done) | (simp; omega) | omega) _) | (with_reducible refine grow_drewN ?_ _) | (with_reducible refine grow_drew ?_) | (with_reducible refine grow_step ?_ (by assumption)) | (with_reducible refine grow_base ?_ (by assumption))))
      clear q0 q1 q2 l0 l1 l2
      go_wp2_with fail
      go_ret
      exact ⟨rfl, (by repeat (first | (with_reducible exact grow_refl _) | (with_reducible assumption) | (with_reducible refine grow_alloc ?_ _) | (with_reducible refine grow_set ?_ (by first | exact Nat.le_refl _ | (simp; done) | (simp; omega) | omega) _) | (with_reducible refine grow_drewN ?_ _) | (with_reducible refine grow_drew ?_) | (with_reducible refine grow_step ?_ (by assumption)) | (with_reducible refine grow_base ?_ (by assumption))))⟩
    have H1 := Lib.hid h1
    have H2 := Lib.hid (newE_turn h1)
    clear h1
    obtain ⟨a, ha⟩ : ∃ a, newB n0 v0 c0 n1 v1 c1 = a := ⟨_, rfl⟩
    obtain ⟨b, hb⟩ : ∃ b, newB n1 v1 c1 n0 v0 c0 = b := ⟨_, rfl⟩
    have HAB : Hid (a = true → b = false) := Lib.hid (by rw [← ha, ← hb]; exact newB_not H1.out H2.out)
    have HA := Lib.hid ha
    have HB := Lib.hid hb
    clear ha hb
    have q0 := HT.out.1.cell
    have q1 := HT.out.2.1.cell
    have q2 := HT.out.2.2.cell
    have l0 := HT.out.1.lt
    have l1 := HT.out.2.1.lt
    have l2 := HT.out.2.2.lt
    go_wp2_with fail
    refine (newer_gen HN0.out HC0.out HN1.out HC1.out a 0 HA.out H1.out _).mono ?_
    rintro e u6 ⟨rfl, hb6⟩
    have hs6 : Below u5.heap.size u5 u6 := (by repeat (first | (with_reducible exact grow_refl _) | (with_reducible assumption) | (with_reducible refine grow_alloc ?_ _) | (with_reducible refine grow_set ?_ (by first | exact Nat.le_refl _ | (simp; done) | (simp; omega) | omega) _) | (with_reducible refine grow_drewN ?_ _) | (with_reducible refine grow_drew ?_) | (with_reducible refine grow_step ?_ (by assumption)) | (with_reducible refine grow_base ?_ (by assumption))))
    have HT := Lib.hid (HT.out.below hs6)
    clear hs6
    have hw6 : Below w.heap.size w u6 := (by repeat (first | (with_reducible exact grow_refl _) | (with_reducible assumption) | (with_reducible refine grow_alloc ?_ _) | (with_reducible refine grow_set ?_ (by first | exact Nat.le_refl _ | (simp; done) | (simp; omega) | omega) _) | (with_reducible refine grow_drewN ?_ _) | (with_reducible refine grow_drew ?_) | (with_reducible refine grow_step ?_ (by assumption)) | (with_reducible refine grow_base ?_ (by assumption))))
    clear q0 q1 q2 l0 l1 l2
    have q0 := HT.out.1.cell
    have q1 := HT.out.2.1.cell
    have q2 := HT.out.2.2.cell
    have l0 := HT.out.1.lt
    have l1 := HT.out.2.1.lt
    have l2 := HT.out.2.2.lt
    go_wp2_with fail
    refine (newer_gen HN1.out HC1.out HN0.out HC0.out b 0 HB.out H2.out _).mono ?_
    rintro e u7 ⟨rfl, hb7⟩
    have hs7 : Below u6.heap.size u6 u7 := (by repeat (first | (with_reducible exact grow_refl _) | (with_reducible assumption) | (with_reducible refine grow_alloc ?_ _) | (with_reducible refine grow_set ?_ (by first | exact Nat.le_refl _ | (simp; done) | (simp; omega) | omega) _) | (with_reducible refine grow_drewN ?_ _) | (with_reducible refine grow_drew ?_) | (with_reducible refine grow_step ?_ (by assumption)) | (with_reducible refine grow_base ?_ (by assumption))))
    have HT := Lib.hid (HT.out.below hs7)
    clear hs7
    have hw7 : Below w.heap.size w u7 := (by repeat (first | (with_reducible exact grow_refl _) | (with_reducible assumption) | (with_reducible refine grow_alloc ?_ _) | (with_reducible refine grow_set ?_ (by first | exact Nat.le_refl _ | (simp; done) | (simp; omega) | omega) _) | (with_reducible refine grow_drewN ?_ _) | (with_reducible refine grow_drew ?_) | (with_reducible refine grow_step ?_ (by assumption)) | (with_reducible refine grow_base ?_ (by assumption))))
    clear q0 q1 q2 l0 l1 l2
    by_cases h3 : newE n1 v1 c1 n2 v2 c2 = 0
    rotate_left
    · obtain ⟨F, hF⟩ : ∃ F, newE n1 v1 c1 n2 v2 c2 = F := ⟨_, rfl⟩
      rw [hF] at h3
      have t1 : (F != 0) = true := by simp [h3]
      have HF := Lib.hid hF
      clear h3 hF
      cases a
      · have q0 := HT.out.1.cell
        have q1 := HT.out.2.1.cell
        have q2 := HT.out.2.2.cell
        have l0 := HT.out.1.lt
        have l1 := HT.out.2.1.lt
        have l2 := HT.out.2.2.lt
        go_wp2_with fail
        refine (newer_gen HN1.out HC1.out HN2.out HC2.out _ F rfl HF.out _).mono ?_
        rintro e u8 ⟨rfl, hb8⟩
        have hs8 : Below u7.heap.size u7 u8 := (by repeat (first | (with_reducible exact grow_refl _) | (with_reducible assumption) | (with_reducible refine grow_alloc ?_ _) | (with_reducible refine grow_set ?_ (by first | exact Nat.le_refl _ | (simp; done) | (simp; omega) | omega) _) | (with_reducible refine grow_drewN ?_ _) | (with_reducible refine grow_drew ?_) | (with_reducible refine grow_step ?_ (by assumption)) | (with_reducible refine grow_base ?_ (by assumption))))
        have HT := Lib.hid (HT.out.below hs8)
        clear hs8
        have hw8 : Below w.heap.size w u8 := (by repeat (first | (with_reducible exact grow_refl _) | (with_reducible assumption) | (with_reducible refine grow_alloc ?_ _) | (with_reducible refine grow_set ?_ (by first | exact Nat.le_refl _ | (simp; done) | (simp; omega) | omega) _) | (with_reducible refine grow_drewN ?_ _) | (with_reducible refine grow_drew ?_) | (with_reducible refine grow_step ?_ (by assumption)) | (with_reducible refine grow_base ?_ (by assumption))))
        clear q0 q1 q2 l0 l1 l2
        go_wp2_with fail
        go_ret
        exact ⟨rfl, (by repeat (first | (with_reducible exact grow_refl _) | (with_reducible assumption) | (with_reducible refine grow_alloc ?_ _) | (with_reducible refine grow_set ?_ (by first | exact Nat.le_refl _ | (simp; done) | (simp; omega) | omega) _) | (with_reducible refine grow_drewN ?_ _) | (with_reducible refine grow_drew ?_) | (with_reducible refine grow_step ?_ (by assumption)) | (with_reducible refine grow_base ?_ (by assumption))))⟩
      · have hb0 : b = false := by have := HAB.out; simpa using this
        subst hb0
        have q0 := HT.out.1.cell
        have q1 := HT.out.2.1.cell
        have q2 := HT.out.2.2.cell
        have l0 := HT.out.1.lt
        have l1 := HT.out.2.1.lt
        have l2 := HT.out.2.2.lt
        go_wp2_with fail
        refine (newer_gen HN1.out HC1.out HN2.out HC2.out _ F rfl HF.out _).mono ?_
        rintro e u8 ⟨rfl, hb8⟩
        have hs8 : Below u7.heap.size u7 u8 := (by repeat (first | (with_reducible exact grow_refl _) | (with_reducible assumption) | (with_reducible refine grow_alloc ?_ _) | (with_reducible refine grow_set ?_ (by first | exact Nat.le_refl _ | (simp; done) | (simp; omega) | omega) _) | (with_reducible refine grow_drewN ?_ _) | (with_reducible refine grow_drew ?_) | (with_reducible refine grow_step ?_ (by assumption)) | (with_reducible refine grow_base ?_ (by assumption))))
        have HT := Lib.hid (HT.out.below hs8)
        clear hs8
        have hw8 : Below w.heap.size w u8 := (by repeat (first | (with_reducible exact grow_refl _) | (with_reducible assumption) | (with_reducible refine grow_alloc ?_ _) | (with_reducible refine grow_set ?_ (by first | exact Nat.le_refl _ | (simp; done) | (simp; omega) | omega) _) | (with_reducible refine grow_drewN ?_ _) | (with_reducible refine grow_drew ?_) | (with_reducible refine grow_step ?_ (by assumption)) | (with_reducible refine grow_base ?_ (by assumption))))
        clear q0 q1 q2 l0 l1 l2
        go_wp2_with fail
        go_ret
        exact ⟨rfl, (by repeat (first | (with_reducible exact grow_refl _) | (with_reducible assumption) | (with_reducible refine grow_alloc ?_ _) | (with_reducible refine grow_set ?_ (by first | exact Nat.le_refl _ | (simp; done) | (simp; omega) | omega) _) | (with_reducible refine grow_drewN ?_ _) | (with_reducible refine grow_drew ?_) | (with_reducible refine grow_step ?_ (by assumption)) | (with_reducible refine grow_base ?_ (by assumption))))⟩
    have H3 := Lib.hid h3
    have H4 := Lib.hid (newE_far H1.out h3)
    clear h3
    obtain ⟨c, hc⟩ : ∃ c, newB n1 v1 c1 n2 v2 c2 = c := ⟨_, rfl⟩
    obtain ⟨d, hd⟩ : ∃ d, newB n0 v0 c0 n2 v2 c2 = d := ⟨_, rfl⟩
    have HACD : Hid (a = true → c = true → d = true) := Lib.hid (by rw [← HA.out, ← hc, ← hd]; exact newB_far H1.out H3.out H4.out)
    have HC := Lib.hid hc
    have HD := Lib.hid hd
    clear hc hd
    cases a
    · have q0 := HT.out.1.cell
      have q1 := HT.out.2.1.cell
      have q2 := HT.out.2.2.cell
      have l0 := HT.out.1.lt
      have l1 := HT.out.2.1.lt
      have l2 := HT.out.2.2.lt
      go_wp2_with fail
      refine (newer_gen HN1.out HC1.out HN2.out HC2.out c 0 HC.out H3.out _).mono ?_
      rintro e u8 ⟨rfl, hb8⟩
      have hs8 : Below u7.heap.size u7 u8 := (by repeat (first | (with_reducible exact grow_refl _) | (with_reducible assumption) | (with_reducible refine grow_alloc ?_ _) | (with_reducible refine grow_set ?_ (by first | exact Nat.le_refl _ | (simp; done) | (simp; omega) | omega) _) | (with_reducible refine grow_drewN ?_ _) | (with_reducible refine grow_drew ?_) | (with_reducible refine grow_step ?_ (by assumption)) | (with_reducible refine grow_base ?_ (by assumption))))
      have HT := Lib.hid (HT.out.below hs8)
      clear hs8
      have hw8 : Below w.heap.size w u8 := (by repeat (first | (with_reducible exact grow_refl _) | (with_reducible assumption) | (with_reducible refine grow_alloc ?_ _) | (with_reducible refine grow_set ?_ (by first | exact Nat.le_refl _ | (simp; done) | (simp; omega) | omega) _) | (with_reducible refine grow_drewN ?_ _) | (with_reducible refine grow_drew ?_) | (with_reducible refine grow_step ?_ (by assumption)) | (with_reducible refine grow_base ?_ (by assumption))))
      clear q0 q1 q2 l0 l1 l2
      have q0 := HT.out.1.cell
      have q1 := HT.out.2.1.cell
      have q2 := HT.out.2.2.cell
      have l0 := HT.out.1.lt
      have l1 := HT.out.2.1.lt
      have l2 := HT.out.2.2.lt
      go_wp2_with fail
      refine (newer_gen HN0.out HC0.out HN2.out HC2.out d 0 HD.out H4.out _).mono ?_
      rintro e u9 ⟨rfl, hb9⟩
      have hs9 : Below u8.heap.size u8 u9 := (by repeat (first | (with_reducible exact grow_refl _) | (with_reducible assumption) | (with_reducible refine grow_alloc ?_ _) | (with_reducible refine grow_set ?_ (by first | exact Nat.le_refl _ | (simp; done) | (simp; omega) | omega) _) | (with_reducible refine grow_drewN ?_ _) | (with_reducible refine grow_drew ?_) | (with_reducible refine grow_step ?_ (by assumption)) | (with_reducible refine grow_base ?_ (by assumption))))
      have HT := Lib.hid (HT.out.below hs9)
      clear hs9
      have hw9 : Below w.heap.size w u9 := (by repeat (first | (with_reducible exact grow_refl _) | (with_reducible assumption) | (with_reducible refine grow_alloc ?_ _) | (with_reducible refine grow_set ?_ (by first | exact Nat.le_refl _ | (simp; done) | (simp; omega) | omega) _) | (with_reducible refine grow_drewN ?_ _) | (with_reducible refine grow_drew ?_) | (with_reducible refine grow_step ?_ (by assumption)) | (with_reducible refine grow_base ?_ (by assumption))))
      clear q0 q1 q2 l0 l1 l2
      go_wp2_with fail
      go_ret
      exact ⟨rfl, (by repeat (first | (with_reducible exact grow_refl _) | (with_reducible assumption) | (with_reducible refine grow_alloc ?_ _) | (with_reducible refine grow_set ?_ (by first | exact Nat.le_refl _ | (simp; done) | (simp; omega) | omega) _) | (with_reducible refine grow_drewN ?_ _) | (with_reducible refine grow_drew ?_) | (with_reducible refine grow_step ?_ (by assumption)) | (with_reducible refine grow_base ?_ (by assumption))))⟩
    · have hb0 : b = false := by have := HAB.out; simpa using this
      subst hb0
      have q0 := HT.out.1.cell
      have q1 := HT.out.2.1.cell
      have q2 := HT.out.2.2.cell
      have l0 := HT.out.1.lt
      have l1 := HT.out.2.1.lt
      have l2 := HT.out.2.2.lt
      go_wp2_with fail
      refine (newer_gen HN1.out HC1.out HN2.out HC2.out c 0 HC.out H3.out _).mono ?_
      rintro e u8 ⟨rfl, hb8⟩
      have hs8 : Below u7.heap.size u7 u8 := (by repeat (first | (with_reducible exact grow_refl _) | (with_reducible assumption) | (with_reducible refine grow_alloc ?_ _) | (with_reducible refine grow_set ?_ (by first | exact Nat.le_refl _ | (simp; done) | (simp; omega) | omega) _) | (with_reducible refine grow_drewN ?_ _) | (with_reducible refine grow_drew ?_) | (with_reducible refine grow_step ?_ (by assumption)) | (with_reducible refine grow_base ?_ (by assumption))))
      have HT := Lib.hid (HT.out.below hs8)
      clear hs8
      have hw8 : Below w.heap.size w u8 := (by repeat (first | (with_reducible exact grow_refl _) | (with_reducible assumption) | (with_reducible refine grow_alloc ?_ _) | (with_reducible refine grow_set ?_ (by first | exact Nat.le_refl _ | (simp; done) | (simp; omega) | omega) _) | (with_reducible refine grow_drewN ?_ _) | (with_reducible refine grow_drew ?_) | (with_reducible refine grow_step ?_ (by assumption)) | (with_reducible refine grow_base ?_ (by assumption))))
      clear q0 q1 q2 l0 l1 l2
      cases c
      · have q0 := HT.out.1.cell
        have q1 := HT.out.2.1.cell
        have q2 := HT.out.2.2.cell
        have l0 := HT.out.1.lt
        have l1 := HT.out.2.1.lt
        have l2 := HT.out.2.2.lt
        go_wp2_with fail
        refine (newer_gen HN0.out HC0.out HN2.out HC2.out d 0 HD.out H4.out _).mono ?_
        rintro e u9 ⟨rfl, hb9⟩
        have hs9 : Below u8.heap.size u8 u9 := (by repeat (first | (with_reducible exact grow_refl _) | (with_reducible assumption) | (with_reducible refine grow_alloc ?_ _) | (with_reducible refine grow_set ?_ (by first | exact Nat.le_refl _ | (simp; done) | (simp; omega) | omega) _) | (with_reducible refine grow_drewN ?_ _) | (with_reducible refine grow_drew ?_) | (with_reducible refine grow_step ?_ (by assumption)) | (with_reducible refine grow_base ?_ (by assumption))))
        have HT := Lib.hid (HT.out.below hs9)
        clear hs9
        have hw9 : Below w.heap.size w u9 := (by repeat (first | (with_reducible exact grow_refl _) | (with_reducible assumption) | (with_reducible refine grow_alloc ?_ _) | (with_reducible refine grow_set ?_ (by first | exact Nat.le_refl _ | (simp; done) | (simp; omega) | omega) _) | (with_reducible refine grow_drewN ?_ _) | (with_reducible refine grow_drew ?_) | (with_reducible refine grow_step ?_ (by assumption)) | (with_reducible refine grow_base ?_ (by assumption))))
        clear q0 q1 q2 l0 l1 l2
        go_wp2_with fail
        go_ret
        exact ⟨rfl, (by repeat (first | (with_reducible exact grow_refl _) | (with_reducible assumption) | (with_reducible refine grow_alloc ?_ _) | (with_reducible refine grow_set ?_ (by first | exact Nat.le_refl _ | (simp; done) | (simp; omega) | omega) _) | (with_reducible refine grow_drewN ?_ _) | (with_reducible refine grow_drew ?_) | (with_reducible refine grow_step ?_ (by assumption)) | (with_reducible refine grow_base ?_ (by assumption))))⟩
      · have hd0 : d = true := by have := HACD.out; simpa using this
        subst hd0
        have q0 := HT.out.1.cell
        have q1 := HT.out.2.1.cell
        have q2 := HT.out.2.2.cell
        have l0 := HT.out.1.lt
        have l1 := HT.out.2.1.lt
        have l2 := HT.out.2.2.lt
        go_wp2_with fail
        refine (newer_gen HN0.out HC0.out HN2.out HC2.out true 0 HD.out H4.out _).mono ?_
        rintro e u9 ⟨rfl, hb9⟩
        have hs9 : Below u8.heap.size u8 u9 := (by repeat (first | (with_reducible exact grow_refl _) | (with_reducible assumption) | (with_reducible refine grow_alloc ?_ _) | (with_reducible refine grow_set ?_ (by first | exact Nat.le_refl _ | (simp; done) | (simp; omega) | omega) _) | (with_reducible refine grow_drewN ?_ _) | (with_reducible refine grow_drew ?_) | (with_reducible refine grow_step ?_ (by assumption)) | (with_reducible refine grow_base ?_ (by assumption))))
        have HT := Lib.hid (HT.out.below hs9)
        clear hs9
        have hw9 : Below w.heap.size w u9 := (by repeat (first | (with_reducible exact grow_refl _) | (with_reducible assumption) | (with_reducible refine grow_alloc ?_ _) | (with_reducible refine grow_set ?_ (by first | exact Nat.le_refl _ | (simp; done) | (simp; omega) | omega) _) | (with_reducible refine grow_drewN ?_ _) | (with_reducible refine grow_drew ?_) | (with_reducible refine grow_step ?_ (by assumption)) | (with_reducible refine grow_base ?_ (by assumption))))
        clear q0 q1 q2 l0 l1 l2
        go_wp2_with fail
        go_ret
        exact ⟨rfl, (by repeat (first | (with_reducible exact grow_refl _) | (with_reducible assumption) | (with_reducible refine grow_alloc ?_ _) | (with_reducible refine grow_set ?_ (by first | exact Nat.le_refl _ | (simp; done) | (simp; omega) | omega) _) | (with_reducible refine grow_drewN ?_ _) | (with_reducible refine grow_drew ?_) | (with_reducible refine grow_step ?_ (by assumption)) | (with_reducible refine grow_base ?_ (by assumption))))⟩

set_option maxRecDepth 100000 in
theorem imageBack_walks (H : Type) (enc : TypeId × Value → H) : WalksU enc Tryd.prog ReadT 4 Tryd.f4 := by
  intro W base args ds p hval hA hlt hbulk hsz hdoor
  have hsz0 := hsz
  rw [Tryd.params4] at hA hval
  obtain ⟨v0, vs0, d0, ds0, p0, q0, hargs, rfl, rfl, h0, r0⟩ := trodAll_cons hA
  obtain ⟨v1, vs1, d1, ds1, p1, q1, rfl, rfl, rfl, h1, r1⟩ := trodAll_cons r0
  obtain ⟨v2, vs2, d2, ds2, p2, q2, rfl, rfl, rfl, h2, r2⟩ := trodAll_cons r1
  obtain ⟨v3, vs3, d3, ds3, p3, q3, rfl, rfl, rfl, h3, r3⟩ := trodAll_cons r2
  obtain ⟨rfl, rfl, rfl⟩ := trodAll_nil r3
  obtain rfl : args = #[v0, v1, v2, v3] := by cases args; simp_all
  obtain ⟨a0, b0, c0, rfl, w0, u0, z0⟩ := op_image (hval 0 31 v0 rfl rfl) h0 (w_each hsz 0 31 _ (by rw [Tryd.params4]; rfl) rfl)
  obtain ⟨a1, b1, c1, rfl, w1, u1, z1⟩ := op_image (hval 1 31 v1 rfl rfl) h1 (w_each hsz 1 31 _ (by rw [Tryd.params4]; rfl) rfl)
  obtain ⟨a2, b2, c2, rfl, w2, u2, z2⟩ := op_image (hval 2 31 v2 rfl rfl) h2 (w_each hsz 2 31 _ (by rw [Tryd.params4]; rfl) rfl)
  obtain ⟨a3, rfl, w3⟩ := op_strU (hval 3 9 v3 rfl rfl) h3 hbulk (by simp)
  exact imageBack_walk W a0 b0 c0 a1 b1 c1 a2 b2 c2 a3 w0 u0 z0 w1 u1 z1 w2 u2 z2 w3 hdoor

theorem imageBack_reads (os : Os) {H : Type} (enc : TypeId × Value → H) : ∃ places, DataW.whole enc Tryd.prog ((laidWorldI os).forCall (fun _ _ => 0) ⟨#[], #[.agg #[.string ⟨#[]⟩, .int .i64 0, .string ⟨#[]⟩], .agg #[.string ⟨#[]⟩, .int .i64 0, .string ⟨#[]⟩], .agg #[.string ⟨#[]⟩, .int .i64 0, .string ⟨#[]⟩], .string ⟨#[]⟩], []⟩).memory Tryd.f4.params.toList Rows.imageBackSpec.vars false (#[.agg #[.string ⟨#[]⟩, .int .i64 0, .string ⟨#[]⟩], .agg #[.string ⟨#[]⟩, .int .i64 0, .string ⟨#[]⟩], .agg #[.string ⟨#[]⟩, .int .i64 0, .string ⟨#[]⟩], .string ⟨#[]⟩] : Array Value).toList 8 = some ([.agg [.lit (.string []), .lit (.int .i64 0), .lit (.string [])], .agg [.lit (.string []), .lit (.int .i64 0), .lit (.string [])], .agg [.lit (.string []), .lit (.int .i64 0), .lit (.string [])], .lit (.string [])], [], places) :=
  ⟨[], by kernel_rfl⟩
set_option maxRecDepth 100000 in
theorem imageBack_lifted (os : Os) (started : os.Started) (H : Type) (enc : TypeId × Value → H) (F : Stop.Interp) :
    ReturnsInHanded {} Tryd.checked os 4 .any ((Rows.OpenSpec.upto Rows.imageBackSpec).preRow enc Tryd.prog Tryd.f4 Rows.imageBackUptoRow.domain false Rows.imageBackUptoRow.laid) (((Rows.OpenSpec.upto Rows.imageBackSpec).at F).post enc Tryd.prog Tryd.f4 false true false false) := by
  obtain ⟨places, hx⟩ := imageBack_reads os enc
  exact returns_of_walkU (C := Tryd.checked) (s := Rows.imageBackSpec) (L := LaidI) (D := ReadT) own started (by kernel_rfl) Tryd.func4
    (witness_row_at (enc := enc) (C := Tryd.checked) false (laidWorldI os) #[.agg #[.string ⟨#[]⟩, .int .i64 0, .string ⟨#[]⟩], .agg #[.string ⟨#[]⟩, .int .i64 0, .string ⟨#[]⟩], .agg #[.string ⟨#[]⟩, .int .i64 0, .string ⟨#[]⟩], .string ⟨#[]⟩] rfl (by kernel_rfl) (by kernel_rfl) (by kernel_rfl)
      (OpenSpec.preRow_of_cond 8 hx (by kernel_rfl) (fun k hk => by cases hk; kernel_rfl) (by kernel_rfl) (laidWorldI_met os _)))
    (fun W h hs => readI_of_laid h hs) laidOut (by kernel_rfl) rfl Tryd.underlying4 rfl (fun ds h => by match ds, h with | [_, _, _, _], _ => rfl) (imageBack_walks H enc)

theorem imageBack_bare : Rows.ImageBackUptoSaid :=
  OpenClaim.holds_of_cond 4 Tryd.f4 rfl rfl rfl rfl rfl rfl rfl ⟨rfl, rfl, rfl, rfl, rfl⟩ rfl rfl rfl rfl rfl (by kernel_rfl) Tryd.func4 (by kernel_rfl)
    (of_decide_eq_true (by kernel_rfl)) (by unfold Func.isWrapper; rw [if_neg (of_decide_eq_false (by kernel_rfl))]; exact ⟨rfl, rfl⟩)
    (fun os started H enc _ F => by rw [OpenClaim.pre_eq_preRow]; exact imageBack_lifted os started H enc F)

theorem imageBack_holds : Rows.ImageBackUptoCardSaid :=
  Claim7.holds_tied_plain_at .later [] _ _ _ _
    imageBack_bare (fun _ h => by cases h) (by kernel_rfl) (fun _ h => by cases h) imageBackUpto_row_tie rfl ⟨rfl, rfl⟩ (by kernel_rfl) rfl
    (fun f fn hf hfn => by
      obtain rfl : f = 4 := Option.some.inj ((show Tryd.prog.funcNamed "bootstair/stairlaw1.ImageBack" = some 4 by kernel_rfl).symm.trans hf) |>.symm
      obtain rfl : fn = Tryd.f4 := (Option.some.inj (Tryd.func4.symm.trans hfn)).symm
      exact ⟨by kernel_rfl, fun j t ht => by
        have hm : t ∈ Tryd.f4.params.toList := by simpa using Array.mem_of_getElem? ht
        have hall : (Tryd.f4.params.toList.all fun u => !Tryd.prog.wantsStandIn u) = true := by kernel_rfl
        exact (show Tryd.prog.wantsStandIn t = false by simpa using List.all_eq_true.1 hall t hm)⟩)
    (by kernel_rfl)

end Go.Proofs.YtalgnjdnanlidaaDoor
