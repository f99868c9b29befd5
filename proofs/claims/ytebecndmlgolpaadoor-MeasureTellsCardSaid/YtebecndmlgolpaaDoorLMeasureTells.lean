/- MeasureTells: the measure of any text, of any two, and of any one behind the other: the program's is the reference's. The package variable errors.errorType holds what the program's text lays. -/
import Derived.Test.YtebecndmlgolpaaDoorRows
import Derived.Test.YtebecndmlgolpaaDoorOpen
import Derived.Test.YtebecndmlgolpaaDoorMeas
import Derived.Test.YtebecndmlgolpaaDoorRefA
import Derived.Test.YtebecndmlgolpaaDoorRefB
import Derived.Test.YtebecndmlgolpaaDoorTold
import Derived.Test.YtebecndmlgolpaaDoorLiftD
import Derived.WalkKit
import Derived.Lib.Hide
import Derived.Deep.CutRange
import Derived.Deep.DeepCutAuto
namespace Go.Proofs.YtebecndmlgolpaaDoor
open Go.ChangeShapes Go.WideShapes Go.ChangeAt Go.RowKit
set_option linter.unusedVariables false
set_option maxRecDepth 100000

/-- What the loop over the measures has found. -/
def SeekM (l : List Int) (k : Nat) (E : Int) : Prop :=
  (E = 4 ∧ 30 < l.length) ∨ (E = 1 ∧ l.length ≤ 30 ∧ l.all okM = false) ∨ (E = 0 ∧ l.length ≤ 30 ∧ (l.take k).all okM = true)
theorem SeekM.end_ {l : List Int} {k : Nat} {E : Int} (h : SeekM l k E) (hk : E ≠ 0 ∨ k = l.length) : E = allE l := by
  unfold allE
  rcases h with ⟨rfl, h⟩ | ⟨rfl, h, h2⟩ | ⟨rfl, h, h2⟩
  · rw [if_pos h]
  · rw [if_neg (by omega), h2]; rfl
  · rcases hk with hk | rfl
    · exact absurd rfl hk
    · rw [List.take_length] at h2
      rw [if_neg (by omega), h2]; rfl
theorem i64_small {k : Int} (h : -1 ≤ k) (h' : k ≤ 100) : I64 k := ⟨by omega, by omega⟩
theorem ofE_bd (l : List UInt8) : I64 (ofE l) := by unfold ofE; split <;> exact i64_small (by decide) (by decide)
theorem twoE_bd (a b : Int) : I64 (twoE a b) := by unfold twoE; split <;> exact i64_small (by decide) (by decide)
theorem allE_bd (l : List Int) : I64 (allE l) := by unfold allE; split; exact i64_small (by decide) (by decide); split <;> exact i64_small (by decide) (by decide)

set_option maxHeartbeats 2000000 in
theorem measureTells_walk (w : World) (s : ByteArray) (a b : Int) (A : Option Addr) (l : List Int) (c : Nat) (hs : s.size ≤ 140737488351232) (ia : I64 a) (ib : I64 b) (hA : IntsAt w A l) (hi : ∀ x ∈ l, I64 x) (hl : l.length * 8 ≤ 140737488351232) (hg : Door w) :
    Calls Tryd.prog 3 #[.string s, .int .i64 a, .int .i64 b, .slice A l.length c] w fun e w' => e = .returned (.bool true) ∧ Below w.heap.size w w' := by
  have HA := Lib.hid hA
  have HG := Lib.hid hg
  clear hA hg hi
  go_enter Tryd.func3, Tryd.ntmps3
  go_upto_if 22 with fail
  go_cut [9, 10] (fun e n wx => e = .int .i64 (ofE s.data.toList) ∧ n = .int .i64 (ofM s.data.toList) ∧ Below w.heap.size w wx)
  case first =>
    by_cases h : 24 < s.size
    · have HE : Hid (ofE s.data.toList = 4) := Lib.hid (if_pos (by simpa using h))
      have HM : Hid (ofM s.data.toList = 0) := Lib.hid (if_pos (by simpa using h))
      go_wp2_with fail
      go_meet
      exact ⟨by rw [HE.out], by rw [HM.out], (by repeat (first | (with_reducible exact grow_refl _) | (with_reducible assumption) | (with_reducible refine grow_alloc ?_ _) | (with_reducible refine grow_set ?_ (by first | exact Nat.le_refl _ | (simp; done) | (simp; omega) | omega) _) | (with_reducible refine grow_drewN ?_ _) | (with_reducible refine grow_drew ?_) | (with_reducible refine grow_step ?_ (by assumption)) | (with_reducible refine grow_base ?_ (by assumption))))⟩
    · have HE : Hid (ofE s.data.toList = 0) := Lib.hid (if_neg (by simpa using h))
      have HM : Hid (ofM s.data.toList = textM s.data.toList) := Lib.hid (if_neg (by simpa using h))
      go_wp2_with (go_at_call 10; refine (rText_any _ _ (by omega)).mono ?_; rintro e w' ⟨rfl, rfl⟩)
      go_meet
      exact ⟨by rw [HE.out], by rw [HM.out], (by repeat (first | (with_reducible exact grow_refl _) | (with_reducible assumption) | (with_reducible refine grow_alloc ?_ _) | (with_reducible refine grow_set ?_ (by first | exact Nat.le_refl _ | (simp; done) | (simp; omega) | omega) _) | (with_reducible refine grow_drewN ?_ _) | (with_reducible refine grow_drew ?_) | (with_reducible refine grow_step ?_ (by assumption)) | (with_reducible refine grow_base ?_ (by assumption))))⟩
  case rest =>
    obtain ⟨rfl, rfl, hb⟩ := hcut
    go_wp2_with fail
    refine (mOf_any s _ (by omega)).mono ?_
    rintro e w1 ⟨rfl, hb1⟩
    go_wp2_with fail
    refine (error_any _ _ _ (HG.out.below (by repeat (first | (with_reducible exact grow_refl _) | (with_reducible assumption) | (with_reducible refine grow_alloc ?_ _) | (with_reducible refine grow_set ?_ (by first | exact Nat.le_refl _ | (simp; done) | (simp; omega) | omega) _) | (with_reducible refine grow_drewN ?_ _) | (with_reducible refine grow_drew ?_) | (with_reducible refine grow_step ?_ (by assumption)) | (with_reducible refine grow_base ?_ (by assumption))))) (ofE_bd _)).mono ?_
    rintro e w2 ⟨rfl, hb2⟩
    go_upto_region 12 with (go_at_call 13; refine (rIs_any _ _).mono ?_; rintro e w' ⟨rfl, rfl⟩)
    go_cut [14, 15, 45] (fun _ _ t wx => t = .bool (okM a && okM b) ∧ Below w.heap.size w wx)
    case first =>
      cases ha : okM a
      all_goals
        go_wp2_with fail
        go_meet
        exact ⟨by rw [ha]; rfl, (by repeat (first | (with_reducible exact grow_refl _) | (with_reducible assumption) | (with_reducible refine grow_alloc ?_ _) | (with_reducible refine grow_set ?_ (by first | exact Nat.le_refl _ | (simp; done) | (simp; omega) | omega) _) | (with_reducible refine grow_drewN ?_ _) | (with_reducible refine grow_drew ?_) | (with_reducible refine grow_step ?_ (by assumption)) | (with_reducible refine grow_base ?_ (by assumption))))⟩
    case rest =>
    obtain ⟨rfl, hb9⟩ := hcut
    go_upto_if 45 with fail
    go_cut [9, 10] (fun e n wx => e = .int .i64 (twoE a b) ∧ n = .int .i64 (twoM a b) ∧ Below w.heap.size w wx)
    case first =>
      cases hab : (okM a && okM b)
      · have HE : Hid (twoE a b = 1 ∧ twoM a b = 0) := Lib.hid (by simp only [twoE, twoM, hab]; exact ⟨rfl, rfl⟩)
        go_wp2_with fail
        go_meet
        exact ⟨by rw [HE.out.1], by rw [HE.out.2], (by repeat (first | (with_reducible exact grow_refl _) | (with_reducible assumption) | (with_reducible refine grow_alloc ?_ _) | (with_reducible refine grow_set ?_ (by first | exact Nat.le_refl _ | (simp; done) | (simp; omega) | omega) _) | (with_reducible refine grow_drewN ?_ _) | (with_reducible refine grow_drew ?_) | (with_reducible refine grow_step ?_ (by assumption)) | (with_reducible refine grow_base ?_ (by assumption))))⟩
      · have HE : Hid (twoE a b = 0 ∧ twoM a b = pairM a b) := Lib.hid (by simp only [twoE, twoM, hab]; exact ⟨rfl, rfl⟩)
        obtain ⟨ha, hb'⟩ := Bool.and_eq_true_iff.1 hab
        clear hab
        go_wp2_with (go_at_call 14; refine (rTwo_any _ _ _ ha hb').mono ?_; rintro e w' ⟨rfl, rfl⟩)
        go_meet
        exact ⟨by rw [HE.out.1], by rw [HE.out.2], (by repeat (first | (with_reducible exact grow_refl _) | (with_reducible assumption) | (with_reducible refine grow_alloc ?_ _) | (with_reducible refine grow_set ?_ (by first | exact Nat.le_refl _ | (simp; done) | (simp; omega) | omega) _) | (with_reducible refine grow_drewN ?_ _) | (with_reducible refine grow_drew ?_) | (with_reducible refine grow_step ?_ (by assumption)) | (with_reducible refine grow_base ?_ (by assumption))))⟩
    case rest =>
      obtain ⟨rfl, rfl, hb3⟩ := hcut
      go_wp2_with fail
      refine (two_any a b _).mono ?_
      rintro e w3 ⟨rfl, rfl⟩
      go_wp2_with fail
      refine (error_any _ _ _ (HG.out.below (by repeat (first | (with_reducible exact grow_refl _) | (with_reducible assumption) | (with_reducible refine grow_alloc ?_ _) | (with_reducible refine grow_set ?_ (by first | exact Nat.le_refl _ | (simp; done) | (simp; omega) | omega) _) | (with_reducible refine grow_drewN ?_ _) | (with_reducible refine grow_drew ?_) | (with_reducible refine grow_step ?_ (by assumption)) | (with_reducible refine grow_base ?_ (by assumption))))) (twoE_bd _ _)).mono ?_
      rintro e w4 ⟨rfl, hb4⟩
      go_upto_if 65 with fail
      go_cut [9] (fun e wx => ∃ E, e = .int .i64 E ∧ Hid (SeekM l 0 E) ∧ Below w.heap.size w wx)
      case first =>
        by_cases h : 30 < l.length
        · go_wp2_with fail
          go_meet
          exact ⟨4, rfl, Lib.hid (Or.inl ⟨rfl, h⟩), (by repeat (first | (with_reducible exact grow_refl _) | (with_reducible assumption) | (with_reducible refine grow_alloc ?_ _) | (with_reducible refine grow_set ?_ (by first | exact Nat.le_refl _ | (simp; done) | (simp; omega) | omega) _) | (with_reducible refine grow_drewN ?_ _) | (with_reducible refine grow_drew ?_) | (with_reducible refine grow_step ?_ (by assumption)) | (with_reducible refine grow_base ?_ (by assumption))))⟩
        · go_wp2_with fail
          go_meet
          exact ⟨0, rfl, Lib.hid (Or.inr (Or.inr ⟨rfl, by omega, rfl⟩)), (by repeat (first | (with_reducible exact grow_refl _) | (with_reducible assumption) | (with_reducible refine grow_alloc ?_ _) | (with_reducible refine grow_set ?_ (by first | exact Nat.le_refl _ | (simp; done) | (simp; omega) | omega) _) | (with_reducible refine grow_drewN ?_ _) | (with_reducible refine grow_drew ?_) | (with_reducible refine grow_step ?_ (by assumption)) | (with_reducible refine grow_base ?_ (by assumption))))⟩
      case rest =>
        obtain ⟨E0, rfl, HS0, hb5⟩ := hcut
        go_wp2_with fail
        go_loopw [9, 17, 18] (fun e i _ wr => ∃ (E : Int) (k : Nat), e = .int .i64 E ∧ i = .int .i64 k ∧ k ≤ l.length ∧ Hid (SeekM l k E) ∧ Below w.heap.size w wr) (fun _ i _ _ => l.length - (intOf i).toNat)
        case atStart => exact ⟨E0, 0, rfl, rfl, Nat.zero_le _, HS0, (by repeat (first | (with_reducible exact grow_refl _) | (with_reducible assumption) | (with_reducible refine grow_alloc ?_ _) | (with_reducible refine grow_set ?_ (by first | exact Nat.le_refl _ | (simp; done) | (simp; omega) | omega) _) | (with_reducible refine grow_drewN ?_ _) | (with_reducible refine grow_drew ?_) | (with_reducible refine grow_step ?_ (by assumption)) | (with_reducible refine grow_base ?_ (by assumption))))⟩
        case round =>
          obtain ⟨E, k, rfl, rfl, hk, HS, hb6⟩ := hrel
          by_cases hlt : k < l.length
          · by_cases hE : E = 0
            · subst hE
              have h30 : l.length ≤ 30 ∧ (l.take k).all okM = true := by
                rcases HS.out with ⟨h, _⟩ | ⟨h, _⟩ | ⟨_, h1, h2⟩
                · exact absurd h (by decide)
                · exact absurd h (by decide)
                · exact ⟨h1, h2⟩
              have H30 := Lib.hid h30
              clear h30
              obtain ⟨b0, off, rfl, hbl, hc⟩ := (HA.out.below hb6) k hlt
              obtain ⟨x, hxe⟩ : ∃ x, l.getD k 0 = x := ⟨_, rfl⟩
              rw [hxe] at hc
              have HX := Lib.hid hxe
              clear hxe
              cases hm : okM x
              · have HS2 : Hid (SeekM l (k + 1) 1) := Lib.hid (Or.inr (Or.inl ⟨rfl, H30.out.1, all_not l k hlt (by rw [HX.out]; exact hm)⟩))
                go_wp2_with (go_at_call 13; refine (rIs_any _ _).mono ?_; rintro e w' ⟨rfl, rfl⟩)
                go_roundw
                case rel => exact ⟨1, k + 1, rfl, by go_num, by omega, HS2, (by repeat (first | (with_reducible exact grow_refl _) | (with_reducible assumption) | (with_reducible refine grow_alloc ?_ _) | (with_reducible refine grow_set ?_ (by first | exact Nat.le_refl _ | (simp; done) | (simp; omega) | omega) _) | (with_reducible refine grow_drewN ?_ _) | (with_reducible refine grow_drew ?_) | (with_reducible refine grow_step ?_ (by assumption)) | (with_reducible refine grow_base ?_ (by assumption))))⟩
                case measure => simp [intOf]; omega
              · have HS2 : Hid (SeekM l (k + 1) 0) := Lib.hid (Or.inr (Or.inr ⟨rfl, H30.out.1, all_step l k hlt H30.out.2 (by rw [HX.out]; exact hm)⟩))
                go_wp2_with (go_at_call 13; refine (rIs_any _ _).mono ?_; rintro e w' ⟨rfl, rfl⟩)
                go_roundw
                case rel => exact ⟨0, k + 1, rfl, by go_num, by omega, HS2, (by repeat (first | (with_reducible exact grow_refl _) | (with_reducible assumption) | (with_reducible refine grow_alloc ?_ _) | (with_reducible refine grow_set ?_ (by first | exact Nat.le_refl _ | (simp; done) | (simp; omega) | omega) _) | (with_reducible refine grow_drewN ?_ _) | (with_reducible refine grow_drew ?_) | (with_reducible refine grow_step ?_ (by assumption)) | (with_reducible refine grow_base ?_ (by assumption))))⟩
                case measure => simp [intOf]; omega
            · have t : (E == 0) = false := by simpa using hE
              have HF := Lib.hid (HS.out.end_ (Or.inl hE))
              have HE2 := Lib.hid hE
              clear hE
              have HM : Hid (allM l = 0) := Lib.hid (by unfold allM; rw [if_neg (by rw [← HF.out]; exact HE2.out)])
              go_wp2_with fail
              refine (all_any A c l _ (HA.out.below (by repeat (first | (with_reducible exact grow_refl _) | (with_reducible assumption) | (with_reducible refine grow_alloc ?_ _) | (with_reducible refine grow_set ?_ (by first | exact Nat.le_refl _ | (simp; done) | (simp; omega) | omega) _) | (with_reducible refine grow_drewN ?_ _) | (with_reducible refine grow_drew ?_) | (with_reducible refine grow_step ?_ (by assumption)) | (with_reducible refine grow_base ?_ (by assumption))))) (by omega)).mono ?_
              rintro e w7 ⟨rfl, rfl⟩
              rw [HM.out, ← HF.out]
              go_wp2_with fail
              refine (error_any _ _ _ (HG.out.below (by repeat (first | (with_reducible exact grow_refl _) | (with_reducible assumption) | (with_reducible refine grow_alloc ?_ _) | (with_reducible refine grow_set ?_ (by first | exact Nat.le_refl _ | (simp; done) | (simp; omega) | omega) _) | (with_reducible refine grow_drewN ?_ _) | (with_reducible refine grow_drew ?_) | (with_reducible refine grow_step ?_ (by assumption)) | (with_reducible refine grow_base ?_ (by assumption))))) (by rw [HF.out]; exact allE_bd _)).mono ?_
              rintro e w8 ⟨rfl, hb8⟩
              go_wp2_with fail
              go_ret
              exact ⟨rfl, (by repeat (first | (with_reducible exact grow_refl _) | (with_reducible assumption) | (with_reducible refine grow_alloc ?_ _) | (with_reducible refine grow_set ?_ (by first | exact Nat.le_refl _ | (simp; done) | (simp; omega) | omega) _) | (with_reducible refine grow_drewN ?_ _) | (with_reducible refine grow_drew ?_) | (with_reducible refine grow_step ?_ (by assumption)) | (with_reducible refine grow_base ?_ (by assumption))))⟩
          · obtain rfl : k = l.length := by omega
            have HF := Lib.hid (HS.out.end_ (Or.inr rfl))
            by_cases hE : E = 0
            · subst hE
              have HM : Hid (allM l = rowM l) := Lib.hid (by unfold allM; rw [if_pos HF.out.symm])
              have hlx : ¬ 30 < l.length ∧ l.all okM = true := by
                have h := HF.out
                unfold allE at h
                by_cases h1 : 30 < l.length
                · rw [if_pos h1] at h; exact absurd h (by decide)
                · rw [if_neg h1] at h
                  cases h2 : l.all okM
                  · rw [h2] at h; exact absurd h (by decide)
                  · exact ⟨h1, rfl⟩
              have HX := Lib.hid hlx
              clear hlx
              go_wp2_with fail
              refine (rAll_any A c l _ (HA.out.below (by repeat (first | (with_reducible exact grow_refl _) | (with_reducible assumption) | (with_reducible refine grow_alloc ?_ _) | (with_reducible refine grow_set ?_ (by first | exact Nat.le_refl _ | (simp; done) | (simp; omega) | omega) _) | (with_reducible refine grow_drewN ?_ _) | (with_reducible refine grow_drew ?_) | (with_reducible refine grow_step ?_ (by assumption)) | (with_reducible refine grow_base ?_ (by assumption))))) HX.out.2 (by have := HX.out.1; omega)).mono ?_
              rintro e w' ⟨rfl, rfl⟩
              go_wp2_with fail
              refine (all_any A c l _ (HA.out.below (by repeat (first | (with_reducible exact grow_refl _) | (with_reducible assumption) | (with_reducible refine grow_alloc ?_ _) | (with_reducible refine grow_set ?_ (by first | exact Nat.le_refl _ | (simp; done) | (simp; omega) | omega) _) | (with_reducible refine grow_drewN ?_ _) | (with_reducible refine grow_drew ?_) | (with_reducible refine grow_step ?_ (by assumption)) | (with_reducible refine grow_base ?_ (by assumption))))) (by omega)).mono ?_
              rintro e w7 ⟨rfl, rfl⟩
              rw [HM.out, ← HF.out]
              go_wp2_with fail
              refine (error_any _ _ _ (HG.out.below (by repeat (first | (with_reducible exact grow_refl _) | (with_reducible assumption) | (with_reducible refine grow_alloc ?_ _) | (with_reducible refine grow_set ?_ (by first | exact Nat.le_refl _ | (simp; done) | (simp; omega) | omega) _) | (with_reducible refine grow_drewN ?_ _) | (with_reducible refine grow_drew ?_) | (with_reducible refine grow_step ?_ (by assumption)) | (with_reducible refine grow_base ?_ (by assumption))))) (by rw [HF.out]; exact allE_bd _)).mono ?_
              rintro e w8 ⟨rfl, hb8⟩
              go_wp2_with fail
              go_ret
              exact ⟨rfl, (by repeat (first | (with_reducible exact grow_refl _) | (with_reducible assumption) | (with_reducible refine grow_alloc ?_ _) | (with_reducible refine grow_set ?_ (by first | exact Nat.le_refl _ | (simp; done) | (simp; omega) | omega) _) | (with_reducible refine grow_drewN ?_ _) | (with_reducible refine grow_drew ?_) | (with_reducible refine grow_step ?_ (by assumption)) | (with_reducible refine grow_base ?_ (by assumption))))⟩
            · have t : (E == 0) = false := by simpa using hE
              have HE2 := Lib.hid hE
              clear hE
              have HM : Hid (allM l = 0) := Lib.hid (by unfold allM; rw [if_neg (by rw [← HF.out]; exact HE2.out)])
              go_wp2_with fail
              refine (all_any A c l _ (HA.out.below (by repeat (first | (with_reducible exact grow_refl _) | (with_reducible assumption) | (with_reducible refine grow_alloc ?_ _) | (with_reducible refine grow_set ?_ (by first | exact Nat.le_refl _ | (simp; done) | (simp; omega) | omega) _) | (with_reducible refine grow_drewN ?_ _) | (with_reducible refine grow_drew ?_) | (with_reducible refine grow_step ?_ (by assumption)) | (with_reducible refine grow_base ?_ (by assumption))))) (by omega)).mono ?_
              rintro e w7 ⟨rfl, rfl⟩
              rw [HM.out, ← HF.out]
              go_wp2_with fail
              refine (error_any _ _ _ (HG.out.below (by repeat (first | (with_reducible exact grow_refl _) | (with_reducible assumption) | (with_reducible refine grow_alloc ?_ _) | (with_reducible refine grow_set ?_ (by first | exact Nat.le_refl _ | (simp; done) | (simp; omega) | omega) _) | (with_reducible refine grow_drewN ?_ _) | (with_reducible refine grow_drew ?_) | (with_reducible refine grow_step ?_ (by assumption)) | (with_reducible refine grow_base ?_ (by assumption))))) (by rw [HF.out]; exact allE_bd _)).mono ?_
              rintro e w8 ⟨rfl, hb8⟩
              go_wp2_with fail
              go_ret
              exact ⟨rfl, (by repeat (first | (with_reducible exact grow_refl _) | (with_reducible assumption) | (with_reducible refine grow_alloc ?_ _) | (with_reducible refine grow_set ?_ (by first | exact Nat.le_refl _ | (simp; done) | (simp; omega) | omega) _) | (with_reducible refine grow_drewN ?_ _) | (with_reducible refine grow_drew ?_) | (with_reducible refine grow_step ?_ (by assumption)) | (with_reducible refine grow_base ?_ (by assumption))))⟩

set_option maxRecDepth 100000 in
theorem measureTells_walks (H : Type) (enc : TypeId × Value → H) : WalksD enc Tryd.prog Door 3 Tryd.f3 := by
  intro W base args ds p hval hA hlt hsz hsh hdoor
  have hsz0 := hsz
  rw [Tryd.params3] at hA hval
  obtain ⟨v0, vs0, d0, ds0, p0, q0, hargs, rfl, rfl, h0, r0⟩ := trodAll_cons hA
  obtain ⟨v1, vs1, d1, ds1, p1, q1, rfl, rfl, rfl, h1, r1⟩ := trodAll_cons r0
  obtain ⟨v2, vs2, d2, ds2, p2, q2, rfl, rfl, rfl, h2, r2⟩ := trodAll_cons r1
  obtain ⟨v3, vs3, d3, ds3, p3, q3, rfl, rfl, rfl, h3, r3⟩ := trodAll_cons r2
  obtain ⟨rfl, rfl, rfl⟩ := trodAll_nil r3
  obtain rfl : args = #[v0, v1, v2, v3] := by cases args; simp_all
  obtain ⟨a0, rfl, w0⟩ := op_str (hval 0 9 v0 rfl rfl) h0 (w_each hsz 0 9 _ (by rw [Tryd.params3]; rfl) rfl)
  obtain ⟨a1, rfl, w1⟩ := op_int (hval 1 3 v1 rfl rfl) h1
  obtain ⟨a2, rfl, w2⟩ := op_int (hval 2 3 v2 rfl rfl) h2
  obtain ⟨A3, a3, c3, rfl, w3, i3, z3⟩ := op_ints (hval 3 22 v3 rfl rfl) h3 (fun x hx => hlt x (by simp [hx])) (w_each hsz 3 22 _ (by rw [Tryd.params3]; rfl) rfl)
  exact measureTells_walk W a0 a1 a2 A3 a3 c3 w0 w1 w2 w3 i3 z3 hdoor

set_option maxRecDepth 100000 in
theorem measureTells_lifted (os : Os) (started : os.Started) (H : Type) (enc : TypeId × Value → H) :
    ReturnsInHanded {} Tryd.checked os 3 .any (fun w args => (Rows.measureTellsSpec.pre enc Tryd.checked.prog Tryd.f3 [] false w args ∧ laidMetH Tryd.checked.prog LaidD w) ∧ sizedMet enc Tryd.checked.prog Tryd.f3 (OpenSpec.ofChange Rows.measureTellsSpec) false w args) (Rows.measureTellsSpec.post enc Tryd.checked.prog Tryd.f3 false true false false) :=
  returns_of_walkD (C := Tryd.checked) (s := Rows.measureTellsSpec) (L := LaidD) (D := Door) own started (by kernel_rfl) Tryd.func3
    (ChangeSpec.witness_at (enc := enc) (C := Tryd.checked) (os := os) (X := fun w _ => laidMetH Tryd.prog LaidD w) false (laidWorld os) #[.string ⟨#[]⟩, .int .i64 0, .int .i64 0, .slice none 0 0] 8 rfl (by kernel_rfl) (by kernel_rfl) (by kernel_rfl) (by kernel_rfl) (by kernel_rfl) (laidWorld_met os _))
    (fun W h => door_of_laid h) laidOut (by kernel_rfl) rfl Tryd.underlying4 rfl (fun ds h => by match ds, h with | [_, _, _, _], _ => rfl) (measureTells_walks H enc)

theorem measureTells_bare : Rows.MeasureTellsSaid :=
  OpenClaim.holds_of_wide 3 Tryd.f3 rfl rfl rfl rfl rfl rfl rfl ⟨rfl, rfl, rfl, rfl, rfl⟩ rfl rfl rfl rfl rfl (by kernel_rfl) Tryd.func3 (by kernel_rfl)
    (of_decide_eq_true (by kernel_rfl)) (by unfold Func.isWrapper; rw [if_neg (of_decide_eq_false (by kernel_rfl))]; exact ⟨rfl, rfl⟩)
    (fun os started H enc _ => measureTells_lifted os started H enc)

theorem measureTells_holds : Rows.MeasureTellsCardSaid :=
  Claim7.holds_tied_plain_at .later [] [.handle] true Rows.measureTellsCard.stood.harness true
    measureTells_bare (fun _ h => by cases h) (by kernel_rfl) (fun _ h => by cases h) measureTells_row_tie rfl ⟨rfl, rfl⟩ (by kernel_rfl) rfl
    (fun f fn hf hfn => by
      obtain rfl : f = 3 := Option.some.inj ((show Tryd.prog.funcNamed "bootstair/stairlaw1.MeasureTells" = some 3 by kernel_rfl).symm.trans hf) |>.symm
      obtain rfl : fn = Tryd.f3 := (Option.some.inj (Tryd.func3.symm.trans hfn)).symm
      exact ⟨by kernel_rfl, fun j t ht => by
        have hm : t ∈ Tryd.f3.params.toList := by simpa using Array.mem_of_getElem? ht
        have hall : (Tryd.f3.params.toList.all fun u => !Tryd.prog.wantsStandIn u) = true := by kernel_rfl
        exact (show Tryd.prog.wantsStandIn t = false by simpa using List.all_eq_true.1 hall t hm)⟩)
    (by kernel_rfl)

end Go.Proofs.YtebecndmlgolpaaDoor
