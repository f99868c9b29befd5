/- TopKept: what was good is known, though the power went. -/
import Derived.Test.YtkipjloapdolbaaGreatDoorRows
import Derived.Test.YtkipjloapdolbaaGreatDoorOpen
import Derived.Test.YtkipjloapdolbaaGreatDoorNum
import Derived.Test.YtkipjloapdolbaaGreatDoorBase
import Derived.Test.YtkipjloapdolbaaGreatDoorFoot
import Derived.Test.YtkipjloapdolbaaGreatDoorImg
import Derived.Test.YtkipjloapdolbaaGreatDoorCntP
import Derived.Test.YtkipjloapdolbaaGreatDoorTold
import Derived.Test.YtkipjloapdolbaaGreatDoorKey
import Derived.Test.YtkipjloapdolbaaGreatDoorQuote
import Derived.Test.YtkipjloapdolbaaGreatDoorJdPlain
import Derived.Test.YtkipjloapdolbaaGreatDoorJudge
import Derived.Test.YtkipjloapdolbaaGreatDoorOne
import Derived.Test.YtkipjloapdolbaaGreatDoorLogP
import Derived.Test.YtkipjloapdolbaaGreatDoorLogA
import Derived.Test.YtkipjloapdolbaaGreatDoorLogM
import Derived.Test.YtkipjloapdolbaaGreatDoorLogR
import Derived.Test.YtkipjloapdolbaaGreatDoorLogW
import Derived.Test.YtkipjloapdolbaaGreatDoorLogC
import Derived.Test.YtkipjloapdolbaaGreatDoorLogQ
import Derived.Test.YtkipjloapdolbaaGreatDoorLiftT
import Derived.Test.YtkipjloapdolbaaGreatDoorLiftV
import Derived.Test.YtkipjloapdolbaaGreatDoorReadL
import Derived.WalkKit
import Derived.WalkSpells
import Derived.Lib.Hide
import Derived.Deep.RegionHeld3
import Derived.Deep.CutBlock
import Derived.Deep.DeepCutAuto
namespace Go.Proofs.YtkipjloapdolbaaGreatDoor
open Go.ChangeShapes Go.WideShapes Go.ChangeAt Go.RowKit
set_option linter.unusedVariables false
set_option linter.unusedSimpArgs false
set_option maxRecDepth 100000

/-- Counts that know one name at most. -/
def OneC (s : ByteArray) (ls : List Cnt) (x : Int) : Prop := (ls = [] ∧ x = 0) ∨ (ls = [(s, x)] ∧ 0 < x)
theorem OneC.nil_ (s : ByteArray) : OneC s [] 0 := Or.inl ⟨rfl, rfl⟩
theorem OneC.pos {s : ByteArray} {ls : List Cnt} {x : Int} (h : OneC s ls x) : 0 ≤ x := by
  rcases h with ⟨_, h⟩ | ⟨_, h⟩ <;> omega
theorem OneC.of {s : ByteArray} {ls : List Cnt} {x : Int} (h : OneC s ls x) : ofL ls s.data.toList = x := by
  rcases h with ⟨rfl, rfl⟩ | ⟨rfl, h⟩
  · rfl
  · show (if s.data.toList = s.data.toList then x else _) = _
    rw [if_pos rfl]
theorem OneC.raise {s : ByteArray} {ls : List Cnt} {x : Int} (h : OneC s ls x) (v : Int) :
    (raiseB ls s v = true → raiseE ls s v = 0 ∧ x < v ∧ OneC s (raiseL ls s v) v) ∧ (raiseB ls s v = false → raiseE ls s v = 0 → ¬ x < v) := by
  have ho := h.of
  unfold raiseB raiseE raiseL
  cases hs : okName s
  · simp
  · rw [if_pos rfl, if_pos rfl, if_pos rfl]
    by_cases hx : v < 0 ∨ 1000 < v
    · rw [if_pos hx, if_pos hx, if_pos hx]; simp
    · rw [if_neg hx, if_neg hx, if_neg hx, ho]
      by_cases h3 : v ≤ x
      · rw [if_pos h3, if_pos h3, if_pos h3]
        exact ⟨fun h => by simp at h, fun _ _ => by omega⟩
      · rw [if_neg h3, if_neg h3, if_neg h3]
        rcases h with ⟨rfl, rfl⟩ | ⟨rfl, h⟩
        · have e : hasL [] s.data.toList = false := rfl
          rw [e]
          exact ⟨fun _ => ⟨rfl, by omega, Or.inr ⟨rfl, by omega⟩⟩, fun h => by simp at h⟩
        · have e : hasL [(s, x)] s.data.toList = true := by
            show (s.data.toList == s.data.toList || false) = true
            simp
          have e2 : setL [(s, x)] s.data.toList v = [(s, v)] := by
            show (if s.data.toList = s.data.toList then (s, v) :: [] else _) = _
            rw [if_pos rfl]
          rw [e, if_pos rfl, if_pos rfl, if_pos rfl, e2]
          exact ⟨fun _ => ⟨rfl, by omega, Or.inr ⟨rfl, by omega⟩⟩, fun h => by simp at h⟩
/-- What a log has kept of one name: at most so much, whatever of it is left. -/
def Kept (s : ByteArray) (m : Int) (L : Lg) : Prop := OneC s (raisedL L.recs) m ∧ ∀ k, ∃ x, x ≤ m ∧ OneC s (raisedL (L.recs.take k)) x
theorem Kept.zero (s : ByteArray) (n : Int) : Kept s 0 (failOut lg0 n) := by
  have e : (failOut lg0 n).recs = [] := rfl
  unfold Kept
  rw [e]
  exact ⟨OneC.nil_ s, fun k => ⟨0, Int.le_refl _, by rw [List.take_nil]; exact OneC.nil_ s⟩⟩
theorem Kept.same {s : ByteArray} {m : Int} {L L' : Lg} (h : Kept s m L) (e : L'.recs = L.recs) : Kept s m L' := by
  unfold Kept
  rw [e]
  exact h
theorem Kept.raise {s : ByteArray} {m : Int} {L : Lg} (h : Kept s m L) (v : Int) :
    ((raiseOut L s v).1.1 = true → (raiseOut L s v).1.2 = 0 ∧ m < v ∧ Kept s v (raiseOut L s v).2) ∧
    ((raiseOut L s v).1.1 = false → Kept s m (raiseOut L s v).2 ∧ ((raiseOut L s v).1.2 = 0 → ¬ m < v)) := by
  obtain ⟨h1, h2⟩ := h.1.raise v
  unfold raiseOut
  cases hst : L.st
  · rw [if_neg (by decide)]
    cases hr : raiseB (raisedL L.recs) s v
    · rw [if_neg (by decide)]
      exact ⟨fun e => by simp at e, fun _ => ⟨h, fun e => h2 hr e⟩⟩
    · rw [if_pos rfl]
      obtain ⟨g1, g2, g3⟩ := h1 hr
      by_cases h30 : L.recs.length = 30
      · rw [if_pos h30]
        exact ⟨fun e => by simp at e, fun _ => ⟨h, fun e => by simp at e⟩⟩
      · rw [if_neg h30]
        by_cases hl : L.left = 0
        · rw [if_pos hl]
          exact ⟨fun e => by simp at e, fun _ => ⟨h.same rfl, fun e => by simp at e⟩⟩
        · rw [if_neg hl]
          refine ⟨fun _ => ⟨rfl, g2, ?_, ?_⟩, fun e => by simp at e⟩
          · show OneC s (raisedL (L.recs ++ [(s, v)])) v
            rw [raisedL_snoc]; exact g3
          · intro k
            show ∃ x, x ≤ v ∧ OneC s (raisedL ((L.recs ++ [(s, v)]).take k)) x
            by_cases hk : k ≤ L.recs.length
            · rw [List.take_append_of_le_length hk]
              obtain ⟨x, hx, ho⟩ := h.2 k
              exact ⟨x, by omega, ho⟩
            · rw [List.take_of_length_le (by simp; omega), raisedL_snoc]
              exact ⟨v, Int.le_refl _, g3⟩
  · rw [if_pos rfl]
    exact ⟨fun e => by simp at e, fun _ => ⟨h, fun e => by simp at e⟩⟩
theorem Kept.sync {s : ByteArray} {m : Int} {L : Lg} (h : Kept s m L) : Kept s m (syncOut L).2 := by
  refine h.same ?_
  unfold syncOut
  split
  · rfl
  · split <;> rfl
theorem Kept.crash {s : ByteArray} {m : Int} {L : Lg} (h : Kept s m L) (keep : Int) : ∃ x, 0 ≤ x ∧ x ≤ m ∧ ofL (raisedL (crashOut L keep).recs) s.data.toList = x := by
  obtain ⟨x, hx, ho⟩ := h.2 (wholeN L.recs (highOf L keep).toNat)
  exact ⟨x, ho.pos, hx, ho.of⟩
theorem pub_ok {x : Int} (h : okSecret x = true) : pubM x = pwI 64 x ∧ pubE x = 0 := by
  unfold pubM pubE
  rw [h]
  exact ⟨rfl, rfl⟩

set_option maxHeartbeats 4000000 in
theorem topKept_walk (w : World) (s : ByteArray) (A : Option Addr) (xs : List Int) (c : Nat) (f k x kk n : Int)
    (hs : s.size ≤ 140737488351232) (hA : IntsAt w A xs) (hi : ∀ x ∈ xs, I64 x) (hxs : xs.length * 8 ≤ 140737488351232) (ifl : I64 f) (ik : I64 k) (ix : I64 x) (ikk : I64 kk) (iN : I64 n) (hsh : w.ShapedOpen Tryz.prog) (hd : TabTD w) :
    Calls Tryz.prog 4 #[.string s, .slice A xs.length c, .int .i64 f, .int .i64 k, .int .i64 x, .int .i64 kk, .int .i64 n] w fun e w' => e = .returned (.bool true) ∧ Below w.heap.size w w' := by
  have en := fun k w => err_neq k w
  have ee := fun k w => err_eql k w
  have gn := fun o k w => err_guard_neq o k w
  have ge := fun o k w => err_guard_eql o k w
  have HM : Hid (MaxT w) := Lib.hid (maxLen_cell hsh)
  have HT := Lib.hid hd.1
  have HD := Lib.hid hd.2
  have HK := Lib.hid ik
  have HF := Lib.hid ifl
  have HS := Lib.hid hs
  have HA := Lib.hid hA
  clear hsh hd ik ifl hs hA
  go_enter Tryz.func4, Tryz.ntmps4
  go_wp2_with fail
  refine (one_any _ HT.out).mono ?_
  rintro e w1 ⟨rfl, hb1⟩
  have HB1 := Lib.hid hb1
  go_wp2_with fail
  refine (logNew_at w w1 hb1).mono ?_
  rintro e w2 ⟨g, rfl, hL, hb2⟩
  have HL := Lib.hid hL
  clear hL hb2 hb1
  go_wp2_with fail
  refine (lgFail_at f HF.out HL.out).mono ?_
  rintro e w3 ⟨rfl, hL, hk⟩
  have HL := Lib.hid hL
  clear hL hk
  go_upto_block 0 with fail
  go_cut [17, 18, 19, 20] (fun mo _ _ _ wx => ∃ (M : Int) (L : Lg), mo = .int .i64 M ∧ Hid (Kept s M L) ∧ Hid (LogAt (fun k => k < w1.heap.size ∧ w.heap.size ≤ k) w wx g 800 L))
  case first =>
    go_wp2_with fail
    go_loopw [17, 18, 19, 20] (fun mo i _ _ wr => ∃ (j : Nat) (M : Int) (L : Lg), mo = .int .i64 M ∧ i = .int .i64 j ∧ j ≤ xs.length ∧ j ≤ 25 ∧ Hid (Kept s M L) ∧ Hid (LogAt (fun k => k < w1.heap.size ∧ w.heap.size ≤ k) w wr g (31 * j) L)) (fun _ i _ _ _ => 25 - (intOf i).toNat)
    case atStart => exact ⟨0, 0, _, rfl, rfl, by omega, by omega, Lib.hid (Kept.zero s f), Lib.hid (HL.out.mono (by omega))⟩
    case round =>
      obtain ⟨j, M, L, rfl, rfl, hj, hj5, HKP, HL⟩ := hrel
      by_cases hgo : j < xs.length ∧ j < 25
      · have g0 : (j : Int) < (xs.length : Int) := by omega
        have g1 : (j : Int) < 25 := by omega
        obtain ⟨b0, off, rfl, hlt0, hc0⟩ := HA.out j hgo.1
        obtain ⟨y, hy⟩ : ∃ y, xs.getD j 0 = y := ⟨_, rfl⟩
        rw [hy] at hc0
        have hc := (HL.out.bel.cell (p := ⟨b0, off + j, none⟩) hlt0).trans hc0
        clear hy hgo
        go_wp2_with fail
        refine (lgRaise_at s y HL.out HS.out (by omega) HT.out HM.out).mono ?_
        rintro e w4 ⟨rfl, hL4, hk4⟩
        have hc4 := (hL4.bel.cell (p := ⟨b0, off + j, none⟩) hlt0).trans hc0
        obtain ⟨R1, R2⟩ := HKP.out.raise y
        obtain ⟨⟨⟨B, E⟩, L4⟩, hRO⟩ : ∃ r, raiseOut L s y = r := ⟨_, rfl⟩
        rw [hRO] at R1 R2 hL4 ⊢
        simp only at R1 R2 hL4 ⊢
        clear hRO hk4 hc
        cases B
        · obtain ⟨K4, hn⟩ := R2 rfl
          by_cases hE : E = 0
          · have hn2 := hn hE
            have t1 : (E == 0) = true := by simp [hE]
            clear hn hE
            have HK4 := Lib.hid K4
            have HL4 := Lib.hid hL4
            clear K4 hL4 R1 R2
            by_cases h3 : j = 3
            · subst h3
              go_wp2_with fail
              refine (lgSync_at HL4.out).mono ?_
              rintro e w5 ⟨rfl, hL5, hk5⟩
              obtain ⟨E2, hE2⟩ : ∃ E2, (syncOut L4).1 = E2 := ⟨_, rfl⟩
              rw [hE2]
              have HL5 := Lib.hid hL5
              clear hL5 hk5 hE2
              by_cases h2 : E2 = 0
              · have t2 : (E2 != 0) = false := by simp [h2]
                clear h2
                go_wp2_with fail
                go_roundw
                case rel => exact ⟨3 + 1, M, _, rfl, rfl, by omega, by omega, Lib.hid HK4.out.sync, Lib.hid (HL5.out.mono (by omega))⟩
                case measure => simp only [intOf]; omega
              · have t2 : (E2 != 0) = true := by simp [h2]
                clear h2
                go_wp2_with fail
                go_meet
                exact ⟨M, _, rfl, Lib.hid HK4.out.sync, Lib.hid (HL5.out.mono (by omega))⟩
            · have t3 : ((j : Int) == 3) = false := by simp; omega
              clear h3
              go_wp2_with fail
              go_roundw
              case rel => exact ⟨j + 1, M, _, rfl, rfl, by omega, by omega, HK4, Lib.hid (HL4.out.mono (by omega))⟩
              case measure => simp only [intOf]; omega
          · have t1 : (E == 0) = false := by simp [hE]
            clear hn hE
            have HK4 := Lib.hid K4
            have HL4 := Lib.hid hL4
            clear K4 hL4 R1 R2
            by_cases h3 : j = 3
            · subst h3
              go_wp2_with fail
              refine (lgSync_at HL4.out).mono ?_
              rintro e w5 ⟨rfl, hL5, hk5⟩
              obtain ⟨E2, hE2⟩ : ∃ E2, (syncOut L4).1 = E2 := ⟨_, rfl⟩
              rw [hE2]
              have HL5 := Lib.hid hL5
              clear hL5 hk5 hE2
              by_cases h2 : E2 = 0
              · have t2 : (E2 != 0) = false := by simp [h2]
                clear h2
                go_wp2_with fail
                go_roundw
                case rel => exact ⟨3 + 1, M, _, rfl, rfl, by omega, by omega, Lib.hid HK4.out.sync, Lib.hid (HL5.out.mono (by omega))⟩
                case measure => simp only [intOf]; omega
              · have t2 : (E2 != 0) = true := by simp [h2]
                clear h2
                go_wp2_with fail
                go_meet
                exact ⟨M, _, rfl, Lib.hid HK4.out.sync, Lib.hid (HL5.out.mono (by omega))⟩
            · have t3 : ((j : Int) == 3) = false := by simp; omega
              clear h3
              go_wp2_with fail
              go_roundw
              case rel => exact ⟨j + 1, M, _, rfl, rfl, by omega, by omega, HK4, Lib.hid (HL4.out.mono (by omega))⟩
              case measure => simp only [intOf]; omega
        · obtain ⟨rfl, hn, K4⟩ := R1 rfl
          have HK4 := Lib.hid K4
          have HL4 := Lib.hid hL4
          clear K4 hL4 R1 R2
          by_cases h3 : j = 3
          · subst h3
            go_wp2_with fail
            refine (lgSync_at HL4.out).mono ?_
            rintro e w5 ⟨rfl, hL5, hk5⟩
            obtain ⟨E2, hE2⟩ : ∃ E2, (syncOut L4).1 = E2 := ⟨_, rfl⟩
            rw [hE2]
            have HL5 := Lib.hid hL5
            clear hL5 hk5 hE2
            by_cases h2 : E2 = 0
            · have t2 : (E2 != 0) = false := by simp [h2]
              clear h2
              go_wp2_with fail
              go_roundw
              case rel => exact ⟨3 + 1, y, _, rfl, rfl, by omega, by omega, Lib.hid HK4.out.sync, Lib.hid (HL5.out.mono (by omega))⟩
              case measure => simp only [intOf]; omega
            · have t2 : (E2 != 0) = true := by simp [h2]
              clear h2
              go_wp2_with fail
              go_meet
              exact ⟨y, _, rfl, Lib.hid HK4.out.sync, Lib.hid (HL5.out.mono (by omega))⟩
          · have t3 : ((j : Int) == 3) = false := by simp; omega
            clear h3
            go_wp2_with fail
            go_roundw
            case rel => exact ⟨j + 1, y, _, rfl, rfl, by omega, by omega, HK4, Lib.hid (HL4.out.mono (by omega))⟩
            case measure => simp only [intOf]; omega
      · have g0 : ¬ ((j : Int) < (xs.length : Int) ∧ (j : Int) < 25) := by omega
        by_cases g1 : (j : Int) < (xs.length : Int)
        · have g2 : ¬ (j : Int) < 25 := by omega
          clear hgo g0
          go_wp2_with fail
          go_meet
          exact ⟨M, L, rfl, HKP, Lib.hid (HL.out.mono (by omega))⟩
        · clear hgo g0
          go_wp2_with fail
          go_meet
          exact ⟨M, L, rfl, HKP, Lib.hid (HL.out.mono (by omega))⟩
  case rest =>
    obtain ⟨M, L, rfl, HKP, HL⟩ := hcut
    go_wp2_with fail
    refine (lgCrash_at k HK.out HL.out HM.out).mono ?_
    rintro e w4 ⟨rfl, hL4, hk4⟩
    have HL4 := Lib.hid hL4
    clear hL4 hk4
    go_wp2_with fail
    refine (lgLeast_at s HL4.out HS.out).mono ?_
    rintro e w5 ⟨rfl, hb5⟩
    have hw5 : Below w.heap.size w w5 := grow_step HL4.out.bel hb5
    obtain ⟨x0, hx0, hx1, hx2⟩ := HKP.out.crash k
    rw [hx2]
    cases hok : okName s
    · rw [if_neg (by decide), if_neg (by decide)]
      clear hx0 hx1 hx2 hb5
      go_wp2_with fail
      refine (error_any 3 3 _ (HD.out.below hw5) (by constructor <;> decide)).mono ?_
      rintro e w6 ⟨rfl, hb6⟩
      go_wp2_with fail
      go_ret
      exact ⟨rfl, grow_step hw5 hb6⟩
    · rw [if_pos rfl, if_pos rfl]
      have q1 : ¬ x0 < 0 := by omega
      have q2 : ¬ M < x0 := by omega
      clear hx0 hx1 hx2 hb5
      go_wp2_with fail
      obtain ⟨E2, hE2⟩ : ∃ E2, mkE x kk n 0 [0, 0, 0, 0, 0, 0, 0, 0] = E2 := ⟨_, rfl⟩
      have HE2 := Lib.hid hE2
      obtain ⟨⟨v1, v2, v3, v4, v5⟩, hv⟩ : ∃ v, mkV x kk n 0 [0, 0, 0, 0, 0, 0, 0, 0] = v := ⟨_, rfl⟩
      have HV := Lib.hid hv
      refine (quoteMake_any x kk n 0 0 0 0 0 0 0 0 0 _).mono ?_
      rintro e w6 ⟨he, hb6⟩
      obtain rfl := he _ HV.out.symm
      clear he
      rw [hE2]
      simp only
      have hw6 : Below w.heap.size w w6 := (by repeat (first | (with_reducible exact grow_refl _) | (with_reducible assumption) | (with_reducible refine grow_alloc ?_ _) | (with_reducible refine grow_set ?_ (by first | exact Nat.le_refl _ | (simp; done) | (simp; omega) | omega) _) | (with_reducible refine grow_drewN ?_ _) | (with_reducible refine grow_drew ?_) | (with_reducible refine grow_step ?_ (by assumption)) | (with_reducible refine grow_base ?_ (by assumption))))
      clear hE2 hv
      by_cases h2 : E2 = 0
      · have t2 : (E2 != 0) = false := by simp [h2]
        have hmk := make_ok (HE2.out.trans h2)
        have h3 := hmk.2.2.2.2.2.1
        rw [HV.out] at h3
        simp only [Prod.mk.injEq] at h3
        obtain ⟨rfl, rfl, h33, h34, h35⟩ := h3
        have HP := Lib.hid (pub_ok hmk.2.2.2.1)
        have HSU : Hid (sureE (pwI 64 x) v1 0 v3 v4 v5 v1 [] [] = 0) := Lib.hid (by
          have h4 := sure_of (es := []) (rs := []) (P := v4) (A := v5) (show mkE x kk v1 0 (evBank []) = 0 from HE2.out.trans h2) (by decide) h34.symm h35.symm
          rw [show isM (evBank []) 0 = v3 from h33.symm] at h4
          rw [h4]
          rfl)
        clear h2 hmk h33 h34 h35
        go_wp2_with fail
        have BM := Box.new w6 50 #[.int .i64 v1, .int .i64 0, .int .i64 v3, .int .i64 v4, .int .i64 v5]
        have cM := BM.cell
        have lM2 := BM.lt
        have fM := BM.frozen
        go_wp2_with fail
        refine (public_any x _).mono ?_
        rintro e w' ⟨rfl, rfl⟩
        rw [HP.out.1, HP.out.2]
        go_wp2_with fail
        refine (judgeSure_any (pwI 64 x) v1 0 v3 v4 v5 v1 none [] 0 none [] 0 _ (EvsAt.nil_ _ _) (by simp) (RulesAt.nil_ _ _) (Nat.le_refl _) (by simp) (by simp)).mono ?_
        rintro e w7 ⟨rfl, hb7⟩
        rw [HSU.out]
        go_wp2_with fail
        go_ret
        exact ⟨rfl, (by repeat (first | (with_reducible exact grow_refl _) | (with_reducible assumption) | (with_reducible refine grow_alloc ?_ _) | (with_reducible refine grow_set ?_ (by first | exact Nat.le_refl _ | (simp; done) | (simp; omega) | omega) _) | (with_reducible refine grow_drewN ?_ _) | (with_reducible refine grow_drew ?_) | (with_reducible refine grow_step ?_ (by assumption)) | (with_reducible refine grow_base ?_ (by assumption))))⟩
      · have t2 : (E2 != 0) = true := by simp [h2]
        clear h2
        go_wp2_with fail
        go_ret
        exact ⟨rfl, (by repeat (first | (with_reducible exact grow_refl _) | (with_reducible assumption) | (with_reducible refine grow_alloc ?_ _) | (with_reducible refine grow_set ?_ (by first | exact Nat.le_refl _ | (simp; done) | (simp; omega) | omega) _) | (with_reducible refine grow_drewN ?_ _) | (with_reducible refine grow_drew ?_) | (with_reducible refine grow_step ?_ (by assumption)) | (with_reducible refine grow_base ?_ (by assumption))))⟩

set_option maxRecDepth 100000 in
theorem topKept_walks (H : Type) (enc : TypeId × Value → H) : WalksD enc Tryz.prog TabTD 4 Tryz.f4 := by
  intro W base args ds p hval hA hlt hsz hsh hdoor
  have hsz0 := hsz
  rw [Tryz.params4] at hA hval
  obtain ⟨v0, vs0, d0, ds0, p0, q0, hargs, rfl, rfl, h0, r0⟩ := trodAll_cons hA
  obtain ⟨v1, vs1, d1, ds1, p1, q1, rfl, rfl, rfl, h1, r1⟩ := trodAll_cons r0
  obtain ⟨v2, vs2, d2, ds2, p2, q2, rfl, rfl, rfl, h2, r2⟩ := trodAll_cons r1
  obtain ⟨v3, vs3, d3, ds3, p3, q3, rfl, rfl, rfl, h3, r3⟩ := trodAll_cons r2
  obtain ⟨v4, vs4, d4, ds4, p4, q4, rfl, rfl, rfl, h4, r4⟩ := trodAll_cons r3
  obtain ⟨v5, vs5, d5, ds5, p5, q5, rfl, rfl, rfl, h5, r5⟩ := trodAll_cons r4
  obtain ⟨v6, vs6, d6, ds6, p6, q6, rfl, rfl, rfl, h6, r6⟩ := trodAll_cons r5
  obtain ⟨rfl, rfl, rfl⟩ := trodAll_nil r6
  obtain rfl : args = #[v0, v1, v2, v3, v4, v5, v6] := by cases args; simp_all
  obtain ⟨a0, rfl, w0⟩ := op_str (hval 0 9 v0 rfl rfl) h0 (w_each hsz 0 9 _ (by rw [Tryz.params4]; rfl) rfl)
  obtain ⟨A1, a1, c1, rfl, w1, i1, z1⟩ := op_ints (hval 1 23 v1 rfl rfl) h1 (fun x hx => hlt x (by simp [hx])) (w_each hsz 1 23 _ (by rw [Tryz.params4]; rfl) rfl)
  obtain ⟨a2, rfl, w2⟩ := op_int (hval 2 3 v2 rfl rfl) h2
  obtain ⟨a3, rfl, w3⟩ := op_int (hval 3 3 v3 rfl rfl) h3
  obtain ⟨a4, rfl, w4⟩ := op_int (hval 4 3 v4 rfl rfl) h4
  obtain ⟨a5, rfl, w5⟩ := op_int (hval 5 3 v5 rfl rfl) h5
  obtain ⟨a6, rfl, w6⟩ := op_int (hval 6 3 v6 rfl rfl) h6
  exact topKept_walk W a0 A1 a1 c1 a2 a3 a4 a5 a6 w0 w1 i1 z1 w2 w3 w4 w5 w6 hsh hdoor

set_option maxRecDepth 100000 in
theorem topKept_lifted (os : Os) (started : os.Started) (H : Type) (enc : TypeId × Value → H) :
    ReturnsInHanded {} Tryz.checked os 4 .any (fun w args => (Rows.topKeptSpec.pre enc Tryz.checked.prog Tryz.f4 [] false w args ∧ laidMetH Tryz.checked.prog LaidTDS w) ∧ sizedMet enc Tryz.checked.prog Tryz.f4 (OpenSpec.ofChange Rows.topKeptSpec) false w args) (Rows.topKeptSpec.post enc Tryz.checked.prog Tryz.f4 false true false false) :=
  returns_of_walkD (C := Tryz.checked) (s := Rows.topKeptSpec) (L := LaidTDS) (D := TabTD) own started (by kernel_rfl) Tryz.func4
    (ChangeSpec.witness_at (enc := enc) (C := Tryz.checked) (os := os) (X := fun w _ => laidMetH Tryz.prog LaidTDS w) false (laidWorldTDS os) #[.string ⟨#[]⟩, .slice none 0 0, .int .i64 0, .int .i64 0, .int .i64 0, .int .i64 0, .int .i64 0] 8 rfl (by kernel_rfl) (by kernel_rfl) (by kernel_rfl) (by kernel_rfl) (by kernel_rfl) (laidWorldTDS_met os _))
    (fun W h => tabTDS_of_laid h) laidOut (by kernel_rfl) rfl Tryz.underlying4 rfl (fun ds h => by match ds, h with | [_, _, _, _, _, _, _], _ => rfl) (topKept_walks H enc)

theorem topKept_bare : Rows.TopKeptSaid :=
  OpenClaim.holds_of_wide 4 Tryz.f4 rfl rfl rfl rfl rfl rfl rfl ⟨rfl, rfl, rfl, rfl, rfl⟩ rfl rfl rfl rfl rfl (by kernel_rfl) Tryz.func4 (by kernel_rfl)
    (of_decide_eq_true (by kernel_rfl)) (by unfold Func.isWrapper; rw [if_neg (of_decide_eq_false (by kernel_rfl))]; exact ⟨rfl, rfl⟩)
    (fun os started H enc _ => topKept_lifted os started H enc)

theorem topKept_holds : Rows.TopKeptCardSaid :=
  Claim7.holds_tied_plain_at .later [] [.data, .data, .data, .handle, .sentinel, .sentinel] true Rows.topKeptCard.stood.harness true
    topKept_bare (fun _ h => by cases h) (by kernel_rfl) (fun _ h => by cases h) topKept_row_tie rfl ⟨rfl, rfl⟩ (by kernel_rfl) rfl
    (fun f fn hf hfn => by
      obtain rfl : f = 4 := Option.some.inj ((show Tryz.prog.funcNamed "bootstair/stairtop.TopKept" = some 4 by kernel_rfl).symm.trans hf) |>.symm
      obtain rfl : fn = Tryz.f4 := (Option.some.inj (Tryz.func4.symm.trans hfn)).symm
      exact ⟨by kernel_rfl, fun j t ht => by
        have hm : t ∈ Tryz.f4.params.toList := by simpa using Array.mem_of_getElem? ht
        have hall : (Tryz.f4.params.toList.all fun u => !Tryz.prog.wantsStandIn u) = true := by kernel_rfl
        exact (show Tryz.prog.wantsStandIn t = false by simpa using List.all_eq_true.1 hall t hm)⟩)
    (by kernel_rfl)

end Go.Proofs.YtkipjloapdolbaaGreatDoor
