/- RuleSame: who is alike where it counts is judged alike; a rule more is no easier; one that has nothing good is never fitted. -/
import Derived.Test.YtebecndmlgolpaaRows
import Derived.Test.YtebecndmlgolpaaOpen
import Derived.Test.YtebecndmlgolpaaOpR2
import Derived.Test.YtebecndmlgolpaaBank2
import Derived.Test.YtebecndmlgolpaaRule2
import Derived.WalkKit
import Derived.Lib.Hide
import Derived.Deep.CutRange
import Derived.Deep.DeepCutAuto
namespace Go.Proofs.Ytebecndmlgolpaa
open Go.ChangeShapes Go.WideShapes Go.ChangeAt Go.RowKit
set_option linter.unusedVariables false
set_option maxRecDepth 100000

theorem infoRule : (Try.prog.info? 57).map (fun i => (i.zero, i.size, i.bytes)) = some (some (.agg #[.int .i64 0, .slice none 0 0]), 2, 32) := by kernel_rfl
/-- What came in, and no register, boxed. -/
def Four (w wx : World) (b c m z : Array Value) : Prop :=
  Box wx w.heap.size 37 b ∧ Box wx (w.heap.size + 1) 37 c ∧ Box wx (w.heap.size + 2) 57 m ∧ Box wx (w.heap.size + 3) 37 z
theorem Four.below {w wx wy : World} {b c m z : Array Value} (h : Four w wx b c m z) (hb : Below wx.heap.size wx wy) : Four w wy b c m z := ⟨h.1.below hb, h.2.1.below hb, h.2.2.1.below hb, h.2.2.2.below hb⟩
theorem Four.belowB {w wx wy : World} {b c m z : Array Value} (h : Four w wx b c m z) (hb : Below (w.heap.size + 4) wx wy) : Four w wy b c m z := ⟨h.1.belowB hb (by omega), h.2.1.belowB hb (by omega), h.2.2.1.belowB hb (by omega), h.2.2.2.belowB hb (by omega)⟩
theorem Four.new (w : World) (b c m z : Array Value) : Four w ((((w.alloc (.cells b 37)).alloc (.cells c 37)).alloc (.cells m 57)).alloc (.cells z 37)) b c m z := by
  refine ⟨(((Box.new _ _ _).alloc_ _).alloc_ _).alloc_ _, ?_, ?_, ?_⟩
  · have h := ((Box.new (w.alloc (.cells b 37)) 37 c).alloc_ (.cells m 57)).alloc_ (.cells z 37)
    have e : (w.alloc (.cells b 37)).heap.size = w.heap.size + 1 := by simp
    rw [e] at h; exact h
  · have h := (Box.new ((w.alloc (.cells b 37)).alloc (.cells c 37)) 57 m).alloc_ (.cells z 37)
    have e : ((w.alloc (.cells b 37)).alloc (.cells c 37)).heap.size = w.heap.size + 2 := by simp
    rw [e] at h; exact h
  · have h := Box.new (((w.alloc (.cells b 37)).alloc (.cells c 37)).alloc (.cells m 57)) 37 z
    have e : (((w.alloc (.cells b 37)).alloc (.cells c 37)).alloc (.cells m 57)).heap.size = w.heap.size + 3 := by simp
    rw [e] at h; exact h
theorem OwnC.cap {w : World} {base : Nat} {e : TypeId} {size : Nat} {A : Option Addr} {c n : Nat} {cs : List Value} (h : OwnC w base e size A c n cs) : n ≤ c := by
  rcases h.2 with ⟨hv, hx⟩ | ⟨g, cap, cur, hv, _, _, hnc, _⟩
  · omega
  · injection hv with h1 h2 h3; omega
theorem lit1 : fitsB [(2, [0])] [0, 0, 0, 0, 0, 0, 0, 0] = true ∧ fitsE [(2, [0])] [0, 0, 0, 0, 0, 0, 0, 0] = 0 := by decide
theorem lit2 : fitsB [(2, [])] [0, 0, 0, 0, 0, 0, 0, 0] = false ∧ fitsE [(2, [])] [0, 0, 0, 0, 0, 0, 0, 0] = 0 := by decide

set_option maxHeartbeats 4000000 in
theorem ruleSame_walk (w : World) (A : Option Addr) (rs : List (Int × List Int)) (c : Nat) (x0 x1 x2 x3 x4 x5 x6 x7 : Int) (y0 y1 y2 y3 y4 y5 y6 y7 : Int) (r : Int) (M : Option Addr) (g : List Int) (gc : Nat) (hA : RulesAt w A rs) (hz : rs.length * 32 ≤ 140737488351232) (hc : rs.length ≤ c) (hgl : ∀ r ∈ rs, r.2.length * 8 ≤ 140737488351232)
    (hM : IntsAt w M g) (ir : I64 r) (hgz : g.length * 8 ≤ 140737488351232) :
    Calls Try.prog 6 #[.slice A rs.length c, .agg #[.int .i64 x0, .int .i64 x1, .int .i64 x2, .int .i64 x3, .int .i64 x4, .int .i64 x5, .int .i64 x6, .int .i64 x7], .agg #[.int .i64 y0, .int .i64 y1, .int .i64 y2, .int .i64 y3, .int .i64 y4, .int .i64 y5, .int .i64 y6, .int .i64 y7], .agg #[.int .i64 r, .slice M g.length gc]] w fun e w' => e = .returned (.bool true) ∧ Below w.heap.size w w' := by
  have en := fun k w => err_neq k w
  have ee := fun k w => err_eql k w
  have gn := fun o k w => err_guard_neq o k w
  have ge := fun o k w => err_guard_eql o k w
  have HA := Lib.hid hA
  have HM := Lib.hid hM
  have HL : Hid (∀ s ∈ rs, s.2.length ≤ 9223372036854775806) := Lib.hid (fun s hs => by have := hgl s hs; omega)
  have HF := Lib.hid (Four.new w #[.int .i64 x0, .int .i64 x1, .int .i64 x2, .int .i64 x3, .int .i64 x4, .int .i64 x5, .int .i64 x6, .int .i64 x7] #[.int .i64 y0, .int .i64 y1, .int .i64 y2, .int .i64 y3, .int .i64 y4, .int .i64 y5, .int .i64 y6, .int .i64 y7] #[.int .i64 r, .slice M g.length gc] #[.int .i64 0, .int .i64 0, .int .i64 0, .int .i64 0, .int .i64 0, .int .i64 0, .int .i64 0, .int .i64 0])
  have L1 := Lib.hid lit1
  have L2 := Lib.hid lit2
  have HF1 : Hid (Four w ((((((w.alloc (.cells #[.int .i64 x0, .int .i64 x1, .int .i64 x2, .int .i64 x3, .int .i64 x4, .int .i64 x5, .int .i64 x6, .int .i64 x7] 37)).alloc (.cells #[.int .i64 y0, .int .i64 y1, .int .i64 y2, .int .i64 y3, .int .i64 y4, .int .i64 y5, .int .i64 y6, .int .i64 y7] 37)).alloc (.cells #[.int .i64 r, .slice M g.length gc] 57)).alloc (.cells #[.int .i64 0, .int .i64 0, .int .i64 0, .int .i64 0, .int .i64 0, .int .i64 0, .int .i64 0, .int .i64 0] 37)).alloc (.cells #[.int .i64 0] 3)).alloc (.cells #[.int .i64 2, .slice (some ⟨w.heap.size + 4, 0, none⟩) 1 1] 57)) #[.int .i64 x0, .int .i64 x1, .int .i64 x2, .int .i64 x3, .int .i64 x4, .int .i64 x5, .int .i64 x6, .int .i64 x7] #[.int .i64 y0, .int .i64 y1, .int .i64 y2, .int .i64 y3, .int .i64 y4, .int .i64 y5, .int .i64 y6, .int .i64 y7] #[.int .i64 r, .slice M g.length gc] #[.int .i64 0, .int .i64 0, .int .i64 0, .int .i64 0, .int .i64 0, .int .i64 0, .int .i64 0, .int .i64 0]) := Lib.hid (HF.out.below (grow_alloc (grow_alloc (grow_refl _) _) _))
  have HR1 : Hid (RulesAt ((((((w.alloc (.cells #[.int .i64 x0, .int .i64 x1, .int .i64 x2, .int .i64 x3, .int .i64 x4, .int .i64 x5, .int .i64 x6, .int .i64 x7] 37)).alloc (.cells #[.int .i64 y0, .int .i64 y1, .int .i64 y2, .int .i64 y3, .int .i64 y4, .int .i64 y5, .int .i64 y6, .int .i64 y7] 37)).alloc (.cells #[.int .i64 r, .slice M g.length gc] 57)).alloc (.cells #[.int .i64 0, .int .i64 0, .int .i64 0, .int .i64 0, .int .i64 0, .int .i64 0, .int .i64 0, .int .i64 0] 37)).alloc (.cells #[.int .i64 0] 3)).alloc (.cells #[.int .i64 2, .slice (some ⟨w.heap.size + 4, 0, none⟩) 1 1] 57)) (some ⟨w.heap.size + 5, 0, none⟩) [(2, [0])]) := Lib.hid (by
    have h0 := IntsAt.new_ ((((w.alloc (.cells #[.int .i64 x0, .int .i64 x1, .int .i64 x2, .int .i64 x3, .int .i64 x4, .int .i64 x5, .int .i64 x6, .int .i64 x7] 37)).alloc (.cells #[.int .i64 y0, .int .i64 y1, .int .i64 y2, .int .i64 y3, .int .i64 y4, .int .i64 y5, .int .i64 y6, .int .i64 y7] 37)).alloc (.cells #[.int .i64 r, .slice M g.length gc] 57)).alloc (.cells #[.int .i64 0, .int .i64 0, .int .i64 0, .int .i64 0, .int .i64 0, .int .i64 0, .int .i64 0, .int .i64 0] 37)) 3 [0] (0, 0)
    have e0 : ((((w.alloc (.cells #[.int .i64 x0, .int .i64 x1, .int .i64 x2, .int .i64 x3, .int .i64 x4, .int .i64 x5, .int .i64 x6, .int .i64 x7] 37)).alloc (.cells #[.int .i64 y0, .int .i64 y1, .int .i64 y2, .int .i64 y3, .int .i64 y4, .int .i64 y5, .int .i64 y6, .int .i64 y7] 37)).alloc (.cells #[.int .i64 r, .slice M g.length gc] 57)).alloc (.cells #[.int .i64 0, .int .i64 0, .int .i64 0, .int .i64 0, .int .i64 0, .int .i64 0, .int .i64 0, .int .i64 0] 37)).heap.size = w.heap.size + 4 := by simp
    rw [e0] at h0
    have h := rule_new (((((w.alloc (.cells #[.int .i64 x0, .int .i64 x1, .int .i64 x2, .int .i64 x3, .int .i64 x4, .int .i64 x5, .int .i64 x6, .int .i64 x7] 37)).alloc (.cells #[.int .i64 y0, .int .i64 y1, .int .i64 y2, .int .i64 y3, .int .i64 y4, .int .i64 y5, .int .i64 y6, .int .i64 y7] 37)).alloc (.cells #[.int .i64 r, .slice M g.length gc] 57)).alloc (.cells #[.int .i64 0, .int .i64 0, .int .i64 0, .int .i64 0, .int .i64 0, .int .i64 0, .int .i64 0, .int .i64 0] 37)).alloc (.cells #[.int .i64 0] 3)) 2 [0] (some ⟨w.heap.size + 4, 0, none⟩) 1 h0 (0, 0)
    have e : (((((w.alloc (.cells #[.int .i64 x0, .int .i64 x1, .int .i64 x2, .int .i64 x3, .int .i64 x4, .int .i64 x5, .int .i64 x6, .int .i64 x7] 37)).alloc (.cells #[.int .i64 y0, .int .i64 y1, .int .i64 y2, .int .i64 y3, .int .i64 y4, .int .i64 y5, .int .i64 y6, .int .i64 y7] 37)).alloc (.cells #[.int .i64 r, .slice M g.length gc] 57)).alloc (.cells #[.int .i64 0, .int .i64 0, .int .i64 0, .int .i64 0, .int .i64 0, .int .i64 0, .int .i64 0, .int .i64 0] 37)).alloc (.cells #[.int .i64 0] 3)).heap.size = w.heap.size + 5 := by simp
    rw [e] at h
    exact h)
  clear hA hM hgl
  go_enter Try.func6, Try.ntmps6
  go_wp2_with fail
  refine (fits_any _ 1 [(2, [0])] 0 0 0 0 0 0 0 0 _ HR1.out (by simp) (by simp) (by simp)).mono ?_
  rintro e w1 ⟨rfl, hb1⟩
  rw [L1.out.1, L1.out.2]
  have HF2 := Lib.hid (HF1.out.below hb1)
  have HR2 : Hid (RulesAt (w1.alloc (.cells #[.int .i64 2, .slice none 0 0] 57)) (some ⟨w1.heap.size, 0, none⟩) [(2, [])]) := Lib.hid (rule_new w1 2 [] none 0 (IntsAt.nil_ _ _) (0, 0))
  have cZ := HF2.out.2.2.2.cell
  have lZ := HF2.out.2.2.2.lt
  go_wp2_with fail
  clear cZ lZ
  refine (fits_any _ 1 [(2, [])] 0 0 0 0 0 0 0 0 _ HR2.out (by simp) (by simp) (by simp)).mono ?_
  rintro e w2 ⟨rfl, hb2⟩
  rw [L2.out.1, L2.out.2]
  have HF3 := Lib.hid ((HF2.out.below (grow_alloc (grow_refl _) _)).below hb2)
  have cB := HF3.out.1.cell
  have lB := HF3.out.1.lt
  go_wp2_with fail
  clear cB
  refine (fits_any A c rs x0 x1 x2 x3 x4 x5 x6 x7 _ (HA.out.below (by repeat (first | (with_reducible exact grow_refl _) | (with_reducible assumption) | (with_reducible refine grow_alloc ?_ _) | (with_reducible refine grow_set ?_ (by first | exact Nat.le_refl _ | (simp; done) | (simp; omega) | omega) _) | (with_reducible refine grow_drewN ?_ _) | (with_reducible refine grow_drew ?_) | (with_reducible refine grow_step ?_ (by assumption)) | (with_reducible refine grow_base ?_ (by assumption))))) hc (by omega) HL.out).mono ?_
  rintro e w3 ⟨rfl, hb3⟩
  have HF4 := Lib.hid (HF3.out.below hb3)
  obtain ⟨P, hP⟩ : ∃ P, fitsB rs [x0, x1, x2, x3, x4, x5, x6, x7] = P := ⟨_, rfl⟩
  obtain ⟨E, hE⟩ : ∃ E, fitsE rs [x0, x1, x2, x3, x4, x5, x6, x7] = E := ⟨_, rfl⟩
  rw [hP, hE]
  have HP := Lib.hid hP
  have HE := Lib.hid hE
  clear hP hE
  by_cases h0 : E = 0
  · have t : (E != 0) = false := by simp [h0]
    have HK := Lib.hid (fitsE_zero (HE.out.trans h0))
    have HPm : Hid (fitM rs [x0, x1, x2, x3, x4, x5, x6, x7] = P) := Lib.hid (by rw [← HP.out]; unfold fitsB; rw [HK.out.1, HK.out.2]; rfl)
    clear h0
    go_wp2_with fail
    refine (ruleMask_any A c rs _ (HA.out.below (by repeat (first | (with_reducible exact grow_refl _) | (with_reducible assumption) | (with_reducible refine grow_alloc ?_ _) | (with_reducible refine grow_set ?_ (by first | exact Nat.le_refl _ | (simp; done) | (simp; omega) | omega) _) | (with_reducible refine grow_drewN ?_ _) | (with_reducible refine grow_drew ?_) | (with_reducible refine grow_step ?_ (by assumption)) | (with_reducible refine grow_base ?_ (by assumption))))) hc (by omega) HL.out).mono ?_
    rintro e w4 ⟨rfl, hb4⟩
    rw [HK.out.1]
    have HF5 := Lib.hid (HF4.out.below hb4)
    have cC := HF5.out.2.1.cell
    have lC := HF5.out.2.1.lt
    go_wp2_with fail
    clear cC
    refine (fits_any A c rs y0 y1 y2 y3 y4 y5 y6 y7 _ (HA.out.below (by repeat (first | (with_reducible exact grow_refl _) | (with_reducible assumption) | (with_reducible refine grow_alloc ?_ _) | (with_reducible refine grow_set ?_ (by first | exact Nat.le_refl _ | (simp; done) | (simp; omega) | omega) _) | (with_reducible refine grow_drewN ?_ _) | (with_reducible refine grow_drew ?_) | (with_reducible refine grow_step ?_ (by assumption)) | (with_reducible refine grow_base ?_ (by assumption))))) hc (by omega) HL.out).mono ?_
    rintro e w5 ⟨rfl, hb5⟩
    have HF6 := Lib.hid (HF5.out.below hb5)
    obtain ⟨Q, hQ⟩ : ∃ Q, fitsB rs [y0, y1, y2, y3, y4, y5, y6, y7] = Q := ⟨_, rfl⟩
    obtain ⟨E2, hE2⟩ : ∃ E2, fitsE rs [y0, y1, y2, y3, y4, y5, y6, y7] = E2 := ⟨_, rfl⟩
    rw [hQ, hE2]
    have HQ := Lib.hid hQ
    have HE2 := Lib.hid hE2
    clear hQ hE2
    have cC := HF6.out.2.1.cell
    have lC2 := HF6.out.2.1.lt
    have cB := HF6.out.1.cell
    have lB2 := HF6.out.1.lt
    go_wp2_with fail
    clear cC cB
    refine (same_any x0 x1 x2 x3 x4 x5 x6 x7 y0 y1 y2 y3 y4 y5 y6 y7 (maskM rs) _).mono ?_
    rintro e w6 ⟨rfl, hb6⟩
    have HF7 := Lib.hid (HF6.out.below hb6)
    obtain ⟨S, hS⟩ : ∃ S, sameB [x0, x1, x2, x3, x4, x5, x6, x7] [y0, y1, y2, y3, y4, y5, y6, y7] (maskM rs) = S := ⟨_, rfl⟩
    obtain ⟨E3, hE3⟩ : ∃ E3, sameE [x0, x1, x2, x3, x4, x5, x6, x7] [y0, y1, y2, y3, y4, y5, y6, y7] (maskM rs) = E3 := ⟨_, rfl⟩
    rw [hS, hE3]
    have HS := Lib.hid hS
    have HE3 := Lib.hid hE3
    clear hS hE3
    go_upto_region 14 with fail
    go_cut [92] (fun t wx => t = .bool false ∧ Below w.heap.size w wx ∧ Hid (Four w wx #[.int .i64 x0, .int .i64 x1, .int .i64 x2, .int .i64 x3, .int .i64 x4, .int .i64 x5, .int .i64 x6, .int .i64 x7] #[.int .i64 y0, .int .i64 y1, .int .i64 y2, .int .i64 y3, .int .i64 y4, .int .i64 y5, .int .i64 y6, .int .i64 y7] #[.int .i64 r, .slice M g.length gc] #[.int .i64 0, .int .i64 0, .int .i64 0, .int .i64 0, .int .i64 0, .int .i64 0, .int .i64 0, .int .i64 0]))
    case first =>
      by_cases h2 : E2 = 0
      · have t2 : (E2 == 0) = true := by simp [h2]
        have hk2 := fitsE_zero (HE2.out.trans h2)
        have hm : okMask (maskM rs) = true := by
          have : maskM rs = (askN rs : Int) := by unfold maskM; rw [if_pos HK.out.1]
          rw [this]
          have hl := askN_lt (rs := rs) (fun s hs => ((rulesE_ok HK.out.1).2 s hs).1)
          exact decide_eq_true (by omega)
        have hz3 : E3 = 0 := by rw [← HE3.out]; unfold sameE; rw [HK.out.2, hk2.2, hm]; rfl
        have t3 : (E3 != 0) = false := by simp [hz3]
        have hS := HS.out
        unfold sameB at hS
        rw [HK.out.2, hk2.2, hm] at hS
        have hQm : fitM rs [y0, y1, y2, y3, y4, y5, y6, y7] = Q := by rw [← HQ.out]; unfold fitsB; rw [hk2.1, hk2.2]; rfl
        clear hm hz3 hk2 h2
        cases S
        · clear hS hQm
          go_wp2_with fail
          go_meet
          exact ⟨rfl, (by repeat (first | (with_reducible exact grow_refl _) | (with_reducible assumption) | (with_reducible refine grow_alloc ?_ _) | (with_reducible refine grow_set ?_ (by first | exact Nat.le_refl _ | (simp; done) | (simp; omega) | omega) _) | (with_reducible refine grow_drewN ?_ _) | (with_reducible refine grow_drew ?_) | (with_reducible refine grow_step ?_ (by assumption)) | (with_reducible refine grow_base ?_ (by assumption)))), HF7⟩
        · have e : toldM [x0, x1, x2, x3, x4, x5, x6, x7] (maskM rs) = toldM [y0, y1, y2, y3, y4, y5, y6, y7] (maskM rs) := by simpa using hS
          have hPQ : P = Q := by rw [← HPm.out, ← hQm]; exact fit_alike HK.out.1 e
          have t4 : (P != Q) = false := by simp [hPQ]
          have HPQ := Lib.hid hPQ
          clear hS hQm e hPQ
          go_wp2_with fail
          go_meet
          exact ⟨by rw [HPQ.out]; simp, (by repeat (first | (with_reducible exact grow_refl _) | (with_reducible assumption) | (with_reducible refine grow_alloc ?_ _) | (with_reducible refine grow_set ?_ (by first | exact Nat.le_refl _ | (simp; done) | (simp; omega) | omega) _) | (with_reducible refine grow_drewN ?_ _) | (with_reducible refine grow_drew ?_) | (with_reducible refine grow_step ?_ (by assumption)) | (with_reducible refine grow_base ?_ (by assumption)))), HF7⟩
      · have t2 : (E2 == 0) = false := by simpa using h2
        clear h2
        go_wp2_with fail
        go_meet
        exact ⟨rfl, (by repeat (first | (with_reducible exact grow_refl _) | (with_reducible assumption) | (with_reducible refine grow_alloc ?_ _) | (with_reducible refine grow_set ?_ (by first | exact Nat.le_refl _ | (simp; done) | (simp; omega) | omega) _) | (with_reducible refine grow_drewN ?_ _) | (with_reducible refine grow_drew ?_) | (with_reducible refine grow_step ?_ (by assumption)) | (with_reducible refine grow_base ?_ (by assumption)))), HF7⟩
    case rest =>
    obtain ⟨rfl, hb7, HF8⟩ := hcut
    obtain ⟨cs, hRC, hCC, hOne⟩ := HA.out.rcells
    have HRC := Lib.hid hRC
    have HCC := Lib.hid hCC
    have HOne := Lib.hid hOne
    have l8 := HF8.out.2.2.2.lt
    clear hRC hCC hOne
    go_upto_region 18 with (at_builtin; refine app_cells rfl _ _ 55 57 rfl Try.underlying55 infoRule (by decide) (by decide) (w.heap.size + 4) none 0 0 [] rfl (OwnC.start _ _ _ _) A c rs.length cs rfl (HCC.out.below hb7) HRC.out.1 HOne.out (by omega) (by omega) (by omega) ?_; intro A1 c1 k1 w8 hk1 ho1 hb8)
    have HF9 := Lib.hid (HF8.out.belowB hb8)
    have cM := HF9.out.2.2.1.cell
    have lM := HF9.out.2.2.1.lt
    have hs8 := hb8.size
    go_wp2_with (at_builtin; refine app_cells rfl _ _ 55 57 rfl Try.underlying55 infoRule (by decide) (by decide) (w.heap.size + 4) A1 c1 k1 ([] ++ cs) rfl (ho1.below (grow_alloc (grow_refl _) _)) (some ⟨w8.heap.size, 0, none⟩) 1 1 [.int .i64 r, .slice M g.length gc] rfl (CellsAt.new_ w8 57 [.int .i64 r, .slice M g.length gc] (0, 0)) rfl (fun u hu => by (simp only [List.mem_cons, List.not_mem_nil, or_false] at hu; rcases hu with rfl | rfl <;> rfl)) (by have := hk1.out; omega) (by have := hk1.out; omega) (by simp; omega) ?_; intro A2 c2 k2 w9 hk2 ho2 hb9; have HF10 := Lib.hid ((HF9.out.below (grow_alloc (grow_refl _) _)).belowB hb9); have cB := HF10.out.1.cell; have lB3 := HF10.out.1.lt)
    clear cB cM
    have hb10 : Below w.heap.size w w9 := grow_base (grow_alloc (grow_base hb7 (hb8.mono (by omega))) _) (hb9.mono (by omega))
    have hlen : k2 = (rs ++ [(r, g)]).length := by rw [hk2.out, hk1.out, List.length_append]; simp
    have hcap := ho2.cap
    have hR9 : RulesAt w9 A2 (rs ++ [(r, g)]) := RulesAt.of_cells ((HRC.out.below hb10).snoc (HM.out.below hb10)) (by have h := ho2.cells; rw [List.nil_append] at h; exact h)
    have HR9 := Lib.hid hR9
    have HL9 : Hid (∀ s ∈ rs ++ [(r, g)], s.2.length ≤ 9223372036854775806) := Lib.hid (fun s hs => by
      rcases List.mem_append.1 hs with h | h
      · exact HL.out s h
      · rw [List.mem_singleton] at h; subst h; show g.length ≤ _; omega)
    rw [hlen] at hcap
    rw [hlen]
    clear hR9 hlen ho2 ho1 hk1 hk2
    refine (fits_any A2 c2 (rs ++ [(r, g)]) x0 x1 x2 x3 x4 x5 x6 x7 _ HR9.out hcap (by rw [List.length_append, List.length_singleton]; omega) HL9.out).mono ?_
    rintro e w11 ⟨rfl, hb12⟩
    have HF11 := Lib.hid (HF10.out.below hb12)
    obtain ⟨R, hR⟩ : ∃ R, fitsB (rs ++ [(r, g)]) [x0, x1, x2, x3, x4, x5, x6, x7] = R := ⟨_, rfl⟩
    obtain ⟨E4, hE4⟩ : ∃ E4, fitsE (rs ++ [(r, g)]) [x0, x1, x2, x3, x4, x5, x6, x7] = E4 := ⟨_, rfl⟩
    rw [hR, hE4]
    have HR := Lib.hid hR
    clear hR hE4
    by_cases h4 : E4 = 0
    · have t4 : (E4 != 0) = false := by simp [h4]
      clear h4
      cases R
      · go_wp2_with fail
        go_ret
        exact ⟨rfl, (by repeat (first | (with_reducible exact grow_refl _) | (with_reducible assumption) | (with_reducible refine grow_alloc ?_ _) | (with_reducible refine grow_set ?_ (by first | exact Nat.le_refl _ | (simp; done) | (simp; omega) | omega) _) | (with_reducible refine grow_drewN ?_ _) | (with_reducible refine grow_drew ?_) | (with_reducible refine grow_step ?_ (by assumption)) | (with_reducible refine grow_base ?_ (by assumption))))⟩
      · have h5 := HR.out
        unfold fitsB at h5
        simp only [Bool.and_eq_true] at h5
        have h6 := fit_more h5.2
        have hp : P = true := by rw [← HPm.out]; exact h6.1
        subst hp
        have hg0 : 0 < g.length := h6.2
        have cM2 := HF11.out.2.2.1.cell
        have lM2 := HF11.out.2.2.1.lt
        clear h5 h6
        go_wp2_with fail
        go_ret
        exact ⟨by simp; try omega, (by repeat (first | (with_reducible exact grow_refl _) | (with_reducible assumption) | (with_reducible refine grow_alloc ?_ _) | (with_reducible refine grow_set ?_ (by first | exact Nat.le_refl _ | (simp; done) | (simp; omega) | omega) _) | (with_reducible refine grow_drewN ?_ _) | (with_reducible refine grow_drew ?_) | (with_reducible refine grow_step ?_ (by assumption)) | (with_reducible refine grow_base ?_ (by assumption))))⟩
    · have t4 : (E4 != 0) = true := by simpa using h4
      clear h4
      go_wp2_with fail
      go_ret
      exact ⟨rfl, (by repeat (first | (with_reducible exact grow_refl _) | (with_reducible assumption) | (with_reducible refine grow_alloc ?_ _) | (with_reducible refine grow_set ?_ (by first | exact Nat.le_refl _ | (simp; done) | (simp; omega) | omega) _) | (with_reducible refine grow_drewN ?_ _) | (with_reducible refine grow_drew ?_) | (with_reducible refine grow_step ?_ (by assumption)) | (with_reducible refine grow_base ?_ (by assumption))))⟩
  · have t : (E != 0) = true := by simpa using h0
    clear h0
    go_wp2_with fail
    go_ret
    exact ⟨rfl, (by repeat (first | (with_reducible exact grow_refl _) | (with_reducible assumption) | (with_reducible refine grow_alloc ?_ _) | (with_reducible refine grow_set ?_ (by first | exact Nat.le_refl _ | (simp; done) | (simp; omega) | omega) _) | (with_reducible refine grow_drewN ?_ _) | (with_reducible refine grow_drew ?_) | (with_reducible refine grow_step ?_ (by assumption)) | (with_reducible refine grow_base ?_ (by assumption))))⟩

set_option maxRecDepth 100000 in
theorem ruleSame_walks (H : Type) (enc : TypeId × Value → H) : Walks enc Try.prog 6 Try.f6 := by
  intro W base args ds p hval hA hlt hsz hsh
  have hsz0 := hsz
  rw [Try.params6] at hA hval
  obtain ⟨v0, vs0, d0, ds0, p0, q0, hargs, rfl, rfl, h0, r0⟩ := trodAll_cons hA
  obtain ⟨v1, vs1, d1, ds1, p1, q1, rfl, rfl, rfl, h1, r1⟩ := trodAll_cons r0
  obtain ⟨v2, vs2, d2, ds2, p2, q2, rfl, rfl, rfl, h2, r2⟩ := trodAll_cons r1
  obtain ⟨v3, vs3, d3, ds3, p3, q3, rfl, rfl, rfl, h3, r3⟩ := trodAll_cons r2
  obtain ⟨rfl, rfl, rfl⟩ := trodAll_nil r3
  obtain rfl : args = #[v0, v1, v2, v3] := by cases args; simp_all
  obtain ⟨A0, a0, c0, rfl, w0, z0, y0, g0⟩ := op_rules (hval 0 55 v0 rfl rfl) h0 (fun x hx => hlt x (by simp [hx])) (w_each hsz 0 55 _ (by rw [Try.params6]; rfl) rfl)
  obtain ⟨x10, x11, x12, x13, x14, x15, x16, x17, rfl, i10, i11, i12, i13, i14, i15, i16, i17⟩ := op_bank (hval 1 37 v1 rfl rfl)
  obtain ⟨x20, x21, x22, x23, x24, x25, x26, x27, rfl, i20, i21, i22, i23, i24, i25, i26, i27⟩ := op_bank (hval 2 37 v2 rfl rfl)
  obtain ⟨a3, A3, g3, c3, rfl, w3, i3, z3⟩ := op_rule (hval 3 57 v3 rfl rfl) h3 (fun x hx => hlt x (by simp [hx])) (w_each hsz 3 57 _ (by rw [Try.params6]; rfl) rfl)
  exact ruleSame_walk W A0 a0 c0 x10 x11 x12 x13 x14 x15 x16 x17 x20 x21 x22 x23 x24 x25 x26 x27 a3 A3 g3 c3 w0 z0 y0 g0 w3 i3 z3

set_option maxRecDepth 100000 in
theorem ruleSame_lifted (os : Os) (started : os.Started) (H : Type) (enc : TypeId × Value → H) :
    ReturnsInHanded {} Try.checked os 6 .any (Rows.ruleSameSpec.pre6 enc Try.prog Try.f6 Rows.ruleSameRow.domain false) (Rows.ruleSameSpec.post enc Try.prog Try.f6 false true false false) :=
  returns_of_walk (C := Try.checked) (s := Rows.ruleSameSpec) own started (by kernel_rfl) Try.func6
    (ChangeSpec.witness6 (enc := enc) (C := Try.checked) false ⟨#[], #[.slice none 0 0, .agg #[.int .i64 0, .int .i64 0, .int .i64 0, .int .i64 0, .int .i64 0, .int .i64 0, .int .i64 0, .int .i64 0], .agg #[.int .i64 0, .int .i64 0, .int .i64 0, .int .i64 0, .int .i64 0, .int .i64 0, .int .i64 0, .int .i64 0], .agg #[.int .i64 0, .slice none 0 0]], []⟩ 8 (by kernel_rfl) (by kernel_rfl) (by kernel_rfl) (by kernel_rfl))
    laidOut (by kernel_rfl) (by kernel_rfl) Try.underlying4 rfl (fun ds h => by match ds, h with | [_, _, _, _], _ => rfl) (ruleSame_walks H enc)

theorem ruleSame_holds : Rows.RuleSameSaid :=
  OpenClaim.holds_of_wide 6 Try.f6 rfl rfl rfl rfl rfl rfl rfl ⟨rfl, rfl, rfl, rfl, rfl⟩ rfl rfl rfl rfl rfl (by kernel_rfl) Try.func6 (by kernel_rfl)
    (of_decide_eq_true (by kernel_rfl)) (by unfold Func.isWrapper; rw [if_neg (of_decide_eq_false (by kernel_rfl))]; exact ⟨rfl, rfl⟩)
    (fun os started H enc _ => ruleSame_lifted os started H enc)

end Go.Proofs.Ytebecndmlgolpaa
