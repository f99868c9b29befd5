/- KeeperPlays: any that ask, and tell: what is refused, what is given, and how often, as the reference says. The package variable errors.errorType holds what the program's text lays. -/
import Derived.Test.YtdedllfgeekogaaDoorRows
import Derived.Test.YtdedllfgeekogaaDoorOpen
import Derived.Test.YtdedllfgeekogaaDoorOpE
import Derived.Test.YtdedllfgeekogaaDoorOpR
import Derived.Test.YtdedllfgeekogaaDoorOpenS
import Derived.Test.YtdedllfgeekogaaDoorOpS
import Derived.Test.YtdedllfgeekogaaDoorOpK
import Derived.Test.YtdedllfgeekogaaDoorEvent2
import Derived.Test.YtdedllfgeekogaaDoorRule
import Derived.Test.YtdedllfgeekogaaDoorJudge
import Derived.Test.YtdedllfgeekogaaDoorNon4
import Derived.Test.YtdedllfgeekogaaDoorRefB
import Derived.Test.YtdedllfgeekogaaDoorRefK
import Derived.Test.YtdedllfgeekogaaDoorRefR
import Derived.Test.YtdedllfgeekogaaDoorRefS
import Derived.Test.YtdedllfgeekogaaDoorKeep
import Derived.Test.YtdedllfgeekogaaDoorKeep
import Derived.Test.YtdedllfgeekogaaDoorTold
import Derived.Test.YtdedllfgeekogaaDoorBds
import Derived.Test.YtdedllfgeekogaaDoorLiftD
import Derived.WalkKit
import Derived.Lib.Hide
namespace Go.Proofs.YtdedllfgeekogaaDoor
open Go.ChangeShapes Go.WideShapes Go.ChangeAt Go.RowKit
set_option linter.unusedVariables false
set_option linter.unusedSimpArgs false
set_option maxRecDepth 100000

theorem qcE_bd (q n m d p a c : Int) : I64 (qcE q n m d p a c) := by
  unfold qcE; split
  · split
    · split <;> exact i64_small (by decide) (by decide)
    · exact rightE_bd _ _ _ _
  · exact i64_small (by decide) (by decide)
theorem sureE_bdK (q n m d p a c : Int) (es : List (Int × Int)) (rs : List (Int × List Int)) : I64 (sureE q n m d p a c es rs) := by
  unfold sureE sureT
  by_cases h1 : qcE q n m d p a c = 0
  · rw [if_pos h1]
    by_cases h2 : evE es = 0
    · rw [if_pos h2]
      by_cases h3 : rulesE rs = 0
      · rw [if_pos h3]
        by_cases h4 : isM (evBank es) m = d
        · rw [if_pos h4]
          by_cases h5 : askedB m rs = true
          · rw [if_pos h5]
            by_cases h6 : fitM rs (evBank es) = true
            · rw [if_pos h6]; exact i64_small (by decide) (by decide)
            · rw [if_neg h6]; exact i64_small (by decide) (by decide)
          · rw [if_neg h5]; exact i64_small (by decide) (by decide)
        · rw [if_neg h4]; exact i64_small (by decide) (by decide)
      · rw [if_neg h3]; exact rulesE_bd _
    · rw [if_neg h2]; exact evE_bd _
  · rw [if_neg h1]; exact qcE_bd _ _ _ _ _ _ _
/-- A keeper, and the reference's nonces beside it. -/
def Both (B : Nat) (w : World) (p s : Int) (rs : List (Int × List Int)) (g k gm : Nat) (la : Int) (ma : Nat) (xs : List Int) (n : Int) : Prop :=
  ∃ (b lo : Nat) (A' : Option Addr) (c' : Nat) (A : Option Addr) (c : Nat) (Am : Option Addr) (cm bm : Nat), KeptAt w p s rs g b lo k A' c' la ma A c xs n ∧ NonceIs w 78 gm bm la ma Am cm xs ∧ k < gm ∧ gm ≤ bm ∧ b ≠ gm ∧ b ≠ bm ∧ B ≤ g
theorem Both.below {B : Nat} {w w' : World} {p s : Int} {rs : List (Int × List Int)} {g k gm : Nat} {la : Int} {ma : Nat} {xs : List Int} {n : Int} (h : Both B w p s rs g k gm la ma xs n) (hb : Below w.heap.size w w') : Both B w' p s rs g k gm la ma xs n := by
  obtain ⟨b, lo, A', c', A, c, Am, cm, bm, h1, h2, r⟩ := h
  exact ⟨b, lo, A', c', A, c, Am, cm, bm, h1.below hb, h2.below hb, r⟩
theorem own_len8 {xs : List Int} {v : Int} (h : xs.length < 8) : (xs ++ [v]).length ≤ 8 := by rw [List.length_append]; simp; omega

set_option maxHeartbeats 8000000 in
theorem keeperPlays_walk (w : World) (p s z : Int) (A2 : Option Addr) (rs : List (Int × List Int)) (rc : Nat) (L : Option Addr) (l : List Int) (cl : Nat) (QA : Option Addr) (qs : List Qt) (qc : Nat) (EA : Option Addr) (ess : List (List (Int × Int))) (ec : Nat)
    (ip : I64 p) (js : I64 s) (jz : I64 z) (hR : RulesAt w A2 rs) (hzr : rs.length * 32 ≤ 140737488351232) (hrc : rs.length ≤ rc) (hgl : ∀ r ∈ rs, r.2.length * 8 ≤ 140737488351232) (hL : IntsAt w L l) (hli : ∀ x ∈ l, I64 x) (hll : l.length * 8 ≤ 140737488351232)
    (hQ : QtsAt w QA qs) (hqz : qs.length * 40 ≤ 140737488351232) (hqc : qs.length ≤ qc) (hE : EvssAt w EA ess) (hez : ess.length * 24 ≤ 140737488351232) (hec : ess.length ≤ ec) (hg : Door w) :
    Calls Tryd.prog 5 #[.int .i64 p, .int .i64 s, .int .i64 z, .slice A2 rs.length rc, .slice L l.length cl, .slice QA qs.length qc, .slice EA ess.length ec] w fun e w' => e = .returned (.bool true) ∧ Below w.heap.size w w' := by
  have en := fun k w => err_neq k w
  have ee := fun k w => err_eql k w
  have gn_ := fun o k w => err_guard_neq o k w
  have ge_ := fun o k w => err_guard_eql o k w
  have HR := Lib.hid hR
  have HG := Lib.hid hg
  have HLI := Lib.hid hL
  have HQS := Lib.hid hQ
  have HES := Lib.hid hE
  have HL : Hid (∀ s ∈ rs, s.2.length ≤ 9223372036854775806) := Lib.hid (fun s hs => by have := hgl s hs; omega)
  clear hR hgl hL hli hQ hE hg
  cases hs : (okIn p && okM s && okM z)
  · have HS := Lib.hid hs
    have hx : (okIn p = false) ∨ (okIn p = true ∧ okM s = false) ∨ (okIn p = true ∧ okM s = true ∧ okM z = false) := by
      cases h1 : okIn p
      · exact Or.inl rfl
      · cases h2 : okM s
        · exact Or.inr (Or.inl ⟨rfl, rfl⟩)
        · right; right
          rw [h1, h2] at hs
          exact ⟨rfl, rfl, by simpa using hs⟩
    clear hs
    rcases hx with h1 | ⟨h1, h2⟩ | ⟨h1, h2, h3⟩
    · go_enter Tryd.func5, Tryd.ntmps5
      go_wp2_with (first | (go_at_call 23; refine (rIn_any _ _).mono ?_; rintro e w' ⟨rfl, rfl⟩; rw [h1]) | (go_at_call 24; refine (rIs_any _ _).mono ?_; rintro e w' ⟨rfl, rfl⟩))
      refine (keeperNew_off p s z A2 rs rc _ HS.out).mono ?_
      rintro e w2 ⟨rfl, hb2⟩
      go_wp2_with fail
      refine (error_any 1 1 _ (HG.out.below hb2) (i64_small (by decide) (by decide))).mono ?_
      rintro e w3 ⟨rfl, hb3⟩
      go_wp2_with fail
      go_ret
      exact ⟨rfl, (by repeat (first | (with_reducible exact grow_refl _) | (with_reducible assumption) | (with_reducible refine grow_alloc ?_ _) | (with_reducible refine grow_set ?_ (by first | exact Nat.le_refl _ | (simp; done) | (simp; omega) | omega) _) | (with_reducible refine grow_drewN ?_ _) | (with_reducible refine grow_drew ?_) | (with_reducible refine grow_step ?_ (by assumption)) | (with_reducible refine grow_base ?_ (by assumption))))⟩
    · go_enter Tryd.func5, Tryd.ntmps5
      go_wp2_with (first | (go_at_call 23; refine (rIn_any _ _).mono ?_; rintro e w' ⟨rfl, rfl⟩; rw [h1]) | (go_at_call 24; refine (rIs_any _ _).mono ?_; rintro e w' ⟨rfl, rfl⟩; first | rw [h2] | skip))
      refine (keeperNew_off p s z A2 rs rc _ HS.out).mono ?_
      rintro e w2 ⟨rfl, hb2⟩
      go_wp2_with fail
      refine (error_any 1 1 _ (HG.out.below hb2) (i64_small (by decide) (by decide))).mono ?_
      rintro e w3 ⟨rfl, hb3⟩
      go_wp2_with fail
      go_ret
      exact ⟨rfl, (by repeat (first | (with_reducible exact grow_refl _) | (with_reducible assumption) | (with_reducible refine grow_alloc ?_ _) | (with_reducible refine grow_set ?_ (by first | exact Nat.le_refl _ | (simp; done) | (simp; omega) | omega) _) | (with_reducible refine grow_drewN ?_ _) | (with_reducible refine grow_drew ?_) | (with_reducible refine grow_step ?_ (by assumption)) | (with_reducible refine grow_base ?_ (by assumption))))⟩
    · go_enter Tryd.func5, Tryd.ntmps5
      go_wp2_with (first | (go_at_call 23; refine (rIn_any _ _).mono ?_; rintro e w' ⟨rfl, rfl⟩; rw [h1]) | (go_at_call 24; refine (rIs_any _ _).mono ?_; rintro e w' ⟨rfl, rfl⟩; first | rw [h2] | rw [h3]))
      refine (keeperNew_off p s z A2 rs rc _ HS.out).mono ?_
      rintro e w2 ⟨rfl, hb2⟩
      go_wp2_with fail
      refine (error_any 1 1 _ (HG.out.below hb2) (i64_small (by decide) (by decide))).mono ?_
      rintro e w3 ⟨rfl, hb3⟩
      go_wp2_with fail
      go_ret
      exact ⟨rfl, (by repeat (first | (with_reducible exact grow_refl _) | (with_reducible assumption) | (with_reducible refine grow_alloc ?_ _) | (with_reducible refine grow_set ?_ (by first | exact Nat.le_refl _ | (simp; done) | (simp; omega) | omega) _) | (with_reducible refine grow_drewN ?_ _) | (with_reducible refine grow_drew ?_) | (with_reducible refine grow_step ?_ (by assumption)) | (with_reducible refine grow_base ?_ (by assumption))))⟩
  have hs3 : okIn p = true ∧ okM s = true ∧ okM z = true := by
    simp only [Bool.and_eq_true] at hs
    exact ⟨hs.1.1, hs.1.2, hs.2⟩
  obtain ⟨h1, h2, h3⟩ := hs3
  clear hs
  by_cases hr : rulesE rs = 0
  rotate_left
  · have HRN := Lib.hid hr
    obtain ⟨E, hE⟩ : ∃ E, rulesE rs = E := ⟨_, rfl⟩
    have HE := Lib.hid hE
    have HEI : Hid (I64 E) := Lib.hid (by rw [← hE]; exact rulesE_bd rs)
    have t : (E != 0) = true := by rw [← hE]; simp [hr]
    have t0 : E ≠ 0 := by rw [← hE]; exact hr
    clear hr hE
    go_enter Tryd.func5, Tryd.ntmps5
    go_wp2_with (first | (go_at_call 23; refine (rIn_any _ _).mono ?_; rintro e w' ⟨rfl, rfl⟩; rw [h1]) | (go_at_call 24; refine (rIs_any _ _).mono ?_; rintro e w' ⟨rfl, rfl⟩; first | rw [h2] | rw [h3]))
    refine (rRules_any A2 rc rs _ HR.out (by omega) HL.out).mono ?_
    rintro e w1 ⟨rfl, hb1⟩
    rw [HE.out]
    go_wp2_with fail
    refine (keeperNew_rules p s z A2 rs rc _ h1 h2 h3 (HR.out.below hb1) hrc E HE.out t0 (by omega) HL.out).mono ?_
    rintro e w2 ⟨rfl, hb2⟩
    have hbw2 : Below w.heap.size w w2 := grow_step hb1 hb2
    go_wp2_with fail
    refine (error_any E E _ (HG.out.below hbw2) HEI.out).mono ?_
    rintro e w3 ⟨rfl, hb3⟩
    rw [show (E == E) = true by simp]
    go_wp2_with fail
    go_ret
    exact ⟨rfl, (by repeat (first | (with_reducible exact grow_refl _) | (with_reducible assumption) | (with_reducible refine grow_alloc ?_ _) | (with_reducible refine grow_set ?_ (by first | exact Nat.le_refl _ | (simp; done) | (simp; omega) | omega) _) | (with_reducible refine grow_drewN ?_ _) | (with_reducible refine grow_drew ?_) | (with_reducible refine grow_step ?_ (by assumption)) | (with_reducible refine grow_base ?_ (by assumption))))⟩
  obtain ⟨hr8, hrok⟩ := rulesE_ok hr
  have HRE := Lib.hid hr
  have HR8 : Hid (rs.length ≤ 1000000 ∧ ∀ r ∈ rs, r.2.length ≤ 1000000) := Lib.hid ⟨by omega, fun r h => by have := (hrok r h).2; omega⟩
  have hr6 : rs.length ≤ 1000000 := by omega
  clear hr hrok hr8
  go_enter Tryd.func5, Tryd.ntmps5
  go_wp2_with (first | (go_at_call 23; refine (rIn_any _ _).mono ?_; rintro e w' ⟨rfl, rfl⟩; rw [h1]) | (go_at_call 24; refine (rIs_any _ _).mono ?_; rintro e w' ⟨rfl, rfl⟩; first | rw [h2] | rw [h3]))
  refine (rRules_any A2 rc rs _ HR.out (by omega) HL.out).mono ?_
  rintro e w1 ⟨rfl, hb1⟩
  rw [HRE.out]
  go_wp2_with fail
  refine (keeperNew_on p s z A2 rs rc _ h1 h2 h3 (HR.out.below hb1) hrc HRE.out HR8.out.1 HR8.out.2).mono ?_
  rintro e w2 ⟨g, lo, k, A', c', rfl, hN1, hK1, hcc1, hR1, hg1, hg2, hg3, hb2⟩
  have hK2 : KeptAt w2 p s rs g g lo k A' c' z 0 none 0 [] ((0 : Nat) : Int) := ⟨NonceIs.new hN1, hK1, hR1, hg2, hg3, Or.inl rfl, hcc1⟩
  have HK2 := Lib.hid hK2
  have hbw2 : Below w.heap.size w w2 := grow_step hb1 hb2
  have hgw : w.heap.size ≤ g := Nat.le_trans hb1.size hg1
  clear hN1 hK1 hR1 hcc1 hg1 hb1 hb2 hK2
  go_wp2_with fail
  refine (error_any 0 0 _ (HG.out.below hbw2) (i64_small (by decide) (by decide))).mono ?_
  rintro e w3 ⟨rfl, hb3⟩
  rw [show ((0 : Int) == 0) = true from rfl]
  have hK3 := HK2.out.below hb3
  have hbw3 : Below w.heap.size w w3 := grow_step hbw2 hb3
  have hl3 := hK3.lts
  obtain ⟨gm, hgm⟩ : ∃ gm, w3.heap.size = gm := ⟨_, rfl⟩
  have HT : Hid (Both w.heap.size (w3.alloc (.cells #[.int .i64 z, .int .i64 0, .slice none 0 0] 78)) p s rs g k gm z 0 [] ((0 : Nat) : Int)) := Lib.hid
    ⟨g, lo, A', c', none, 0, none, 0, gm, hK3.below (grow_alloc (grow_refl _) _), NonceIs.new (by rw [← hgm]; exact Box.new _ _ _), by omega, Nat.le_refl _, by omega, by omega, hgw⟩
  have HLA : Hid (okM z = true) := Lib.hid h3
  clear hb3 HK2 hK3 hbw2 hl3 hg2 hg3
  go_wp2_with fail
  clear hgm
  go_loopw [21, 23, 24, 25, 26, 27, 28, 29, 30, 31, 32, 33, 34, 35] (fun t gv q i _ _ _ _ _ _ _ _ _ _ wr => ∃ (kk j n : Nat) (la : Int) (ma : Nat) (xs : List Int), kk ≤ l.length ∧ n ≤ kk ∧ j ≤ kk ∧ t = .bool true ∧ gv = .int .i64 n ∧ q = .int .i64 j ∧ i = .int .i64 kk ∧ Hid (Both w.heap.size wr p s rs g k gm la ma xs (n : Int)) ∧ Hid (okM la = true) ∧ Hid (xs.length ≤ 8 ∧ ma ≤ 30) ∧ Below w.heap.size w wr) (fun _ _ _ i _ _ _ _ _ _ _ _ _ _ _ => l.length - (intOf i).toNat)
  case atStart => exact ⟨0, 0, 0, z, 0, [], by omega, by omega, by omega, rfl, rfl, rfl, rfl, HT, HLA, Lib.hid ⟨by simp, by omega⟩, grow_alloc hbw3 _⟩
  case round =>
    clear HT HLA
    obtain ⟨kk, j, n, la, ma, xs, hkk, hn, hj, rfl, rfl, rfl, rfl, HT, HLA, HX, hbr⟩ := hrel
    by_cases hlt : kk < l.length
    · have g0 : (kk : Int) < (l.length : Int) := by omega
      by_cases h60 : kk < 60
      · have g1 : (kk : Int) < 60 := by omega
        obtain ⟨y, hy⟩ : ∃ y, l.getD kk 0 = y := ⟨_, rfl⟩
        obtain ⟨b0, off, rfl, _, hc⟩ := (HLI.out.below hbr) kk hlt
        rw [hy] at hc
        clear hy
        obtain ⟨b, lo, A', c', A, c, Am, cm, bm, hK, hM, d1, d2, d3, d4, d5⟩ := HT.out
        have q1 := hK.lts
        have q2 := hM.box.lt
        have q3 := hM.lt
        have HK := Lib.hid hK
        have HM := Lib.hid hM
        have HFE : Hid (∀ (Q : Option Addr) (es : List (Int × Int)), EvsAt w Q es → ∀ a, Q = some a → es ≠ [] → ¬ Foot g b a.block) := Lib.hid (fun Q es he a ha hx h => by have := evs_lt he hx a ha; rcases h with h | h <;> omega)
        clear hK hM HT
        by_cases hy0 : y = 0
        · subst hy0
          by_cases hF : xs.length = 8 ∨ xs.length < 8 ∧ ma = 30
          · have HF := Lib.hid hF
            clear hF
            go_wp2_with fail
            refine (mIssue_full gm bm la ma Am cm xs _ HM.out HF.out).mono ?_
            rintro e w4 ⟨rfl, rfl⟩
            go_wp2_with fail
            refine (kAsk_full _ p s rs g b lo k A' c' la ma A c xs n HK.out HF.out).mono ?_
            rintro e w4 ⟨rfl, rfl⟩
            go_wp2_with fail
            refine (error_any 4 4 _ (HG.out.below hbr) (i64_small (by decide) (by decide))).mono ?_
            rintro e w5 ⟨rfl, hb5⟩
            have HK5 := Lib.hid (HK.out.below hb5)
            have HM5 := Lib.hid (HM.out.below hb5)
            have hbw5 : Below w.heap.size w w5 := grow_step hbr hb5
            go_wp2_with (go_at_call 29; refine (kGiven_any _ p s rs g b lo k A' c' la ma A c xs n HK5.out).mono ?_; rintro e w' ⟨rfl, rfl⟩)
            go_roundw
            case rel => exact ⟨kk + 1, j, n, la, ma, xs, by omega, by omega, by omega, rfl, rfl, rfl, by go_num, Lib.hid ⟨b, lo, A', c', A, c, Am, cm, bm, HK5.out, HM5.out, d1, d2, d3, d4, d5⟩, HLA, HX, hbw5⟩
            case measure => simp [intOf]; omega
          · have f1 : xs.length < 8 := by have := HX.out; omega
            have f2 : ma < 30 := by have := HX.out; omega
            clear hF
            go_wp2_with fail
            refine (mIssue_more gm bm la ma Am cm xs _ HM.out HLA.out f2 f1).mono ?_
            rintro e w4 ⟨Am', cm', bm', rfl, hM4, ebm, hk4⟩
            have hK4 := HK.out.but hk4 (by intro j j1 j2 h; rcases h with h | h <;> omega) (by intro h; rcases h with h | h <;> omega)
            have HK4 := Lib.hid hK4
            have HM4 := Lib.hid hM4
            have hs4 := hk4.size
            have hbw4 : Below w.heap.size w w4 := hbr.trans (hk4.below hbr.size (by intro j h; rcases h with h | h <;> omega))
            have t1 := hM4.box.lt
            have t2 := hM4.lt
            clear hK4 hM4 hk4
            have hpm : okM (pairM la ma) = true := pairM_ok _ _
            go_wp2_with fail
            refine (kAsk_more _ p s rs g b lo k A' c' la ma A c xs n HK4.out HLA.out f2 f1).mono ?_
            rintro e w5 ⟨A5, c5, b5, rfl, hK5, eb, hk5⟩
            have hM5 := HM4.out.but hk5 (by intro h; rcases h with h | h | h <;> omega) (by intro h; rcases h with h | h | h <;> omega)
            have HK5 := Lib.hid hK5
            have HM5 := Lib.hid hM5
            have hbw5 : Below w.heap.size w w5 := hbw4.trans (hk5.below hbw4.size (by intro j h; rcases h with h | h | h <;> omega))
            have HD : Hid (k < gm ∧ gm ≤ bm' ∧ b5 ≠ gm ∧ b5 ≠ bm' ∧ w.heap.size ≤ g) := Lib.hid (by omega)
            clear hK5 hM5 hk5 ebm eb t1 t2 hs4
            obtain ⟨V, hV⟩ : ∃ V, pairM la ma = V := ⟨_, rfl⟩
            rw [hV] at HK5 HM5 hpm ⊢
            clear hV
            have HPM := Lib.hid hpm
            clear hpm
            go_wp2_with fail
            refine (error_any 0 0 _ (HG.out.below hbw5) (i64_small (by decide) (by decide))).mono ?_
            rintro e w6 ⟨rfl, hb6⟩
            have HK6 := Lib.hid (HK5.out.below hb6)
            have HM6 := Lib.hid (HM5.out.below hb6)
            have hbw6 : Below w.heap.size w w6 := grow_step hbw5 hb6
            go_wp2_with (go_at_call 29; refine (kGiven_any _ p s rs g b5 lo k A' c' V (ma + 1) A5 c5 _ n HK6.out).mono ?_; rintro e w' ⟨rfl, rfl⟩)
            go_roundw
            case rel => exact ⟨kk + 1, j, n, V, ma + 1, xs ++ [V], by omega, by omega, by omega, rfl, rfl, rfl, by go_num, Lib.hid ⟨b5, lo, A', c', A5, c5, Am', cm', bm', HK6.out, HM6.out, HD.out⟩, HPM, Lib.hid ⟨own_len8 f1, by omega⟩, hbw6⟩
            case measure => simp [intOf]; omega
        · have yy0 : (y == 0) = false := by simp [hy0]
          clear hy0
          by_cases hq : j < qs.length
          · have gq : (j : Int) < (qs.length : Int) := by omega
            obtain ⟨b1, off1, rfl, lb1, hcs⟩ := (HQS.out.below hbr) j hq
            obtain ⟨⟨v1, v2, v3, v4, v5⟩, hz⟩ : ∃ z, qs.getD j noQt = z := ⟨_, rfl⟩
            rw [hz] at hcs
            simp only [qtCs] at hcs
            have e0 := hcs 0 (by decide)
            have e1 := hcs 1 (by decide)
            have e2 := hcs 2 (by decide)
            have e3 := hcs 3 (by decide)
            have e4 := hcs 4 (by decide)
            simp [-CellFam.cellOfFamily] at e0 e1 e2 e3 e4
            clear hz hcs
            by_cases hev : j < ess.length
            · have gv : (j : Int) < (ess.length : Int) := by omega
              obtain ⟨b2, off2, EA1, ec1, rfl, lb2, hce, hEE, hez1, _⟩ := HES.out j hev
              have hce := (hbr.cell (p := ⟨b2, off2 + j, none⟩) lb2).trans hce
              have lb2 := Nat.lt_of_lt_of_le lb2 hbr.size
              obtain ⟨es, hes⟩ : ∃ es, ess.getD j [] = es := ⟨_, rfl⟩
              rw [hes] at hce hEE hez1
              have HEV := Lib.hid hEE
              clear hes hEE
              have HQ := Lib.hid (Box.new wr 53 #[.int .i64 v1, .int .i64 v2, .int .i64 v3, .int .i64 v4, .int .i64 v5])
              have HKa := Lib.hid (HK.out.below (grow_alloc (grow_refl _) (.cells #[.int .i64 v1, .int .i64 v2, .int .i64 v3, .int .i64 v4, .int .i64 v5] 53)))
              have HMa := Lib.hid (HM.out.below (grow_alloc (grow_refl _) (.cells #[.int .i64 v1, .int .i64 v2, .int .i64 v3, .int .i64 v4, .int .i64 v5] 53)))
              have hbw : Below w.heap.size w (wr.alloc (.cells #[.int .i64 v1, .int .i64 v2, .int .i64 v3, .int .i64 v4, .int .i64 v5] 53)) := grow_alloc hbr _
              have HX8 : Hid (xs.length ≤ 1000) := Lib.hid (by have := HX.out; omega)
              have HEL : Hid (es.length ≤ 9223372036854775806) := Lib.hid (by first | omega | simp)
              have q4 : wr.heap.size ≠ gm ∧ wr.heap.size ≠ bm ∧ wr.heap.size ≠ g ∧ wr.heap.size ≠ b ∧ wr.heap.size ≠ k := by omega
              have cQ := HQ.out.cell
              have lQ := HQ.out.lt
              go_wp2_with fail
              clear cQ
              refine (mUse_any gm bm la ma Am cm xs v1 _ HMa.out HX8.out).mono ?_
              rintro e w5 (⟨rfl, hh, Am', cm', bm', hM5, ebm, hk5⟩ | ⟨rfl, hh, rfl⟩)
              · have HH := Lib.hid hh
                have hs5 := hk5.size
                have HQ5 := Lib.hid (HQ.out.but hk5 (by intro h; rcases h with h | h <;> omega))
                have HK5 := Lib.hid (HKa.out.but hk5 (by intro j j1 j2 h; rcases h with h | h <;> omega) (by intro h; rcases h with h | h <;> omega))
                have HM5 := Lib.hid hM5
                have hbw5 : Below w.heap.size w w5 := hbw.trans (hk5.below hbw.size (by intro j h; rcases h with h | h <;> omega))
                have HD : Hid (k < gm ∧ gm ≤ bm' ∧ b ≠ gm ∧ b ≠ bm' ∧ w.heap.size ≤ g) := Lib.hid (by simp at ebm; omega)
                have HXE : Hid ((xs.erase v1).length ≤ 8 ∧ ma ≤ 30) := Lib.hid (by have : (xs.erase v1).length ≤ xs.length := List.length_erase_le; have := HX.out; omega)
                have cQ := HQ5.out.cell
                have lQ := HQ5.out.lt
                clear hh hM5 hk5 ebm HKa HMa HQ
                go_wp2_with fail
                clear cQ lQ
                refine (rSure_any p v1 v2 v3 v4 v5 v1 EA1 es ec1 A2 rs rc _ (HEV.out.below hbw5) HEL.out (HR.out.below hbw5) (by omega) HL.out).mono ?_
                rintro e w6 ⟨rfl, hb6⟩
                obtain ⟨E, hE⟩ : ∃ E, sureE p v1 v2 v3 v4 v5 v1 es rs = E := ⟨_, rfl⟩
                rw [hE]
                have HE := Lib.hid hE
                have HEI : Hid (I64 E) := Lib.hid (by rw [← hE]; exact sureE_bdK _ _ _ _ _ _ _ _ _)
                have HQ6 := Lib.hid (HQ5.out.below hb6)
                have HK6 := Lib.hid (HK5.out.below hb6)
                have HM6 := Lib.hid (HM5.out.below hb6)
                have hbw6 : Below w.heap.size w w6 := grow_step hbw5 hb6
                have cQ := HQ6.out.cell
                have lQ := HQ6.out.lt
                have q5 := HM6.out.box.lt
                have q6 := HM6.out.lt
                clear hE hb6 HQ5 HK5 HM5
                by_cases hE0 : E = 0
                · subst hE0
                  go_wp2_with fail
                  clear cQ lQ
                  refine (kGive_ok _ p s rs g b lo k A' c' la ma A c xs n HK6.out (by omega) HX8.out v1 v2 v3 v4 v5 EA1 es ec1 (HEV.out.below hbw6) HEL.out (HFE.out EA1 es HEV.out) HR8.out.1 HR8.out.2 HH.out HE.out).mono ?_
                  rintro e w7 ⟨rfl, hK7, hk7⟩
                  have hM7 := HM6.out.but hk7 (by have := HD.out; intro h; rcases h with h | h | h <;> omega) (by have := HD.out; intro h; rcases h with h | h | h <;> omega)
                  have HK7 := Lib.hid hK7
                  have HM7 := Lib.hid hM7
                  have hbw7 : Below w.heap.size w w7 := hbw6.trans (hk7.below hbw6.size (by intro j h; rcases h with h | h | h <;> omega))
                  clear hK7 hM7 hk7 HK6 HM6 HQ6
                  go_wp2_with fail
                  refine (error_any 0 0 _ (HG.out.below hbw7) (i64_small (by decide) (by decide))).mono ?_
                  rintro e w8 ⟨rfl, hb8⟩
                  have HK8 := Lib.hid (HK7.out.below hb8)
                  have HM8 := Lib.hid (HM7.out.below hb8)
                  have hbw8 : Below w.heap.size w w8 := grow_step hbw7 hb8
                  have tg : ((n + 1 : Nat) : Int) = (n : Int) + 1 := by omega
                  go_wp2_with (go_at_call 29; refine (kGiven_any _ p s rs g b lo k A' c' la ma A c _ _ HK8.out).mono ?_; rintro e w' ⟨rfl, rfl⟩; rw [tg])
                  go_roundw
                  case rel => exact ⟨kk + 1, j + 1, n + 1, la, ma, xs.erase v1, by omega, by omega, by omega, rfl, by go_num, by go_num, by go_num, Lib.hid ⟨b, lo, A', c', A, c, Am', cm', bm', HK8.out, HM8.out, HD.out⟩, HLA, HXE, hbw8⟩
                  case measure => simp [intOf]; omega
                · have tE : (E == 0) = false := by simp [hE0]
                  have HN0 := Lib.hid hE0
                  clear hE0
                  go_wp2_with fail
                  clear cQ lQ
                  refine (kGive_bad _ p s rs g b lo k A' c' la ma A c xs n HK6.out (by omega) HX8.out v1 v2 v3 v4 v5 EA1 es ec1 (HEV.out.below hbw6) HEL.out (HFE.out EA1 es HEV.out) HR8.out.1 HR8.out.2 HH.out E HE.out HN0.out).mono ?_
                  rintro e w7 ⟨rfl, hK7, hk7⟩
                  have hM7 := HM6.out.but hk7 (by have := HD.out; intro h; rcases h with h | h | h <;> omega) (by have := HD.out; intro h; rcases h with h | h | h <;> omega)
                  have HK7 := Lib.hid hK7
                  have HM7 := Lib.hid hM7
                  have hbw7 : Below w.heap.size w w7 := hbw6.trans (hk7.below hbw6.size (by intro j h; rcases h with h | h | h <;> omega))
                  clear hK7 hM7 hk7 HK6 HM6 HQ6
                  go_wp2_with fail
                  refine (error_any E E _ (HG.out.below hbw7) HEI.out).mono ?_
                  rintro e w8 ⟨rfl, hb8⟩
                  rw [show (E == E) = true by simp]
                  have HK8 := Lib.hid (HK7.out.below hb8)
                  have HM8 := Lib.hid (HM7.out.below hb8)
                  have hbw8 : Below w.heap.size w w8 := grow_step hbw7 hb8
                  go_wp2_with (go_at_call 29; refine (kGiven_any _ p s rs g b lo k A' c' la ma A c _ _ HK8.out).mono ?_; rintro e w' ⟨rfl, rfl⟩)
                  go_roundw
                  case rel => exact ⟨kk + 1, j + 1, n, la, ma, xs.erase v1, by omega, by omega, by omega, rfl, rfl, by go_num, by go_num, Lib.hid ⟨b, lo, A', c', A, c, Am', cm', bm', HK8.out, HM8.out, HD.out⟩, HLA, HXE, hbw8⟩
                  case measure => simp [intOf]; omega
              · have HH := Lib.hid hh
                have cQ := HQ.out.cell
                have lQ := HQ.out.lt
                clear hh
                go_wp2_with fail
                clear cQ lQ
                refine (kGive_no _ p s rs g b lo k A' c' la ma A c xs n HKa.out (by omega) HX8.out v1 v2 v3 v4 v5 EA1 es ec1 (HEV.out.below hbw) HEL.out (HFE.out EA1 es HEV.out) HR8.out.1 HR8.out.2 HH.out).mono ?_
                rintro e w7 ⟨rfl, hK7, hk7⟩
                have hM7 := HMa.out.but hk7 (by intro h; rcases h with h | h | h <;> omega) (by intro h; rcases h with h | h | h <;> omega)
                have HK7 := Lib.hid hK7
                have HM7 := Lib.hid hM7
                have hbw7 : Below w.heap.size w w7 := hbw.trans (hk7.below hbw.size (by intro j h; rcases h with h | h | h <;> omega))
                clear hK7 hM7 hk7 HKa HMa HQ
                go_wp2_with fail
                refine (error_any 5 5 _ (HG.out.below hbw7) (i64_small (by decide) (by decide))).mono ?_
                rintro e w8 ⟨rfl, hb8⟩
                have HK8 := Lib.hid (HK7.out.below hb8)
                have HM8 := Lib.hid (HM7.out.below hb8)
                have hbw8 : Below w.heap.size w w8 := grow_step hbw7 hb8
                go_wp2_with (go_at_call 29; refine (kGiven_any _ p s rs g b lo k A' c' la ma A c _ _ HK8.out).mono ?_; rintro e w' ⟨rfl, rfl⟩)
                go_roundw
                case rel => exact ⟨kk + 1, j + 1, n, la, ma, xs, by omega, by omega, by omega, rfl, rfl, by go_num, by go_num, Lib.hid ⟨b, lo, A', c', A, c, Am, cm, bm, HK8.out, HM8.out, d1, d2, d3, d4, d5⟩, HLA, HX, hbw8⟩
                case measure => simp [intOf]; omega
            · have gv : ¬ (j : Int) < (ess.length : Int) := by omega
              have HEV : Hid (EvsAt w none []) := Lib.hid (EvsAt.nil_ _ _)
              have HQ := Lib.hid (Box.new wr 53 #[.int .i64 v1, .int .i64 v2, .int .i64 v3, .int .i64 v4, .int .i64 v5])
              have HKa := Lib.hid (HK.out.below (grow_alloc (grow_refl _) (.cells #[.int .i64 v1, .int .i64 v2, .int .i64 v3, .int .i64 v4, .int .i64 v5] 53)))
              have HMa := Lib.hid (HM.out.below (grow_alloc (grow_refl _) (.cells #[.int .i64 v1, .int .i64 v2, .int .i64 v3, .int .i64 v4, .int .i64 v5] 53)))
              have hbw : Below w.heap.size w (wr.alloc (.cells #[.int .i64 v1, .int .i64 v2, .int .i64 v3, .int .i64 v4, .int .i64 v5] 53)) := grow_alloc hbr _
              have HX8 : Hid (xs.length ≤ 1000) := Lib.hid (by have := HX.out; omega)
              have HEL : Hid (([] : List (Int × Int)).length ≤ 9223372036854775806) := Lib.hid (by first | omega | simp)
              have q4 : wr.heap.size ≠ gm ∧ wr.heap.size ≠ bm ∧ wr.heap.size ≠ g ∧ wr.heap.size ≠ b ∧ wr.heap.size ≠ k := by omega
              have cQ := HQ.out.cell
              have lQ := HQ.out.lt
              go_wp2_with fail
              clear cQ
              refine (mUse_any gm bm la ma Am cm xs v1 _ HMa.out HX8.out).mono ?_
              rintro e w5 (⟨rfl, hh, Am', cm', bm', hM5, ebm, hk5⟩ | ⟨rfl, hh, rfl⟩)
              · have HH := Lib.hid hh
                have hs5 := hk5.size
                have HQ5 := Lib.hid (HQ.out.but hk5 (by intro h; rcases h with h | h <;> omega))
                have HK5 := Lib.hid (HKa.out.but hk5 (by intro j j1 j2 h; rcases h with h | h <;> omega) (by intro h; rcases h with h | h <;> omega))
                have HM5 := Lib.hid hM5
                have hbw5 : Below w.heap.size w w5 := hbw.trans (hk5.below hbw.size (by intro j h; rcases h with h | h <;> omega))
                have HD : Hid (k < gm ∧ gm ≤ bm' ∧ b ≠ gm ∧ b ≠ bm' ∧ w.heap.size ≤ g) := Lib.hid (by simp at ebm; omega)
                have HXE : Hid ((xs.erase v1).length ≤ 8 ∧ ma ≤ 30) := Lib.hid (by have : (xs.erase v1).length ≤ xs.length := List.length_erase_le; have := HX.out; omega)
                have cQ := HQ5.out.cell
                have lQ := HQ5.out.lt
                clear hh hM5 hk5 ebm HKa HMa HQ
                go_wp2_with fail
                clear cQ lQ
                refine (rSure_any p v1 v2 v3 v4 v5 v1 none [] 0 A2 rs rc _ (HEV.out.below hbw5) HEL.out (HR.out.below hbw5) (by omega) HL.out).mono ?_
                rintro e w6 ⟨rfl, hb6⟩
                obtain ⟨E, hE⟩ : ∃ E, sureE p v1 v2 v3 v4 v5 v1 [] rs = E := ⟨_, rfl⟩
                rw [hE]
                have HE := Lib.hid hE
                have HEI : Hid (I64 E) := Lib.hid (by rw [← hE]; exact sureE_bdK _ _ _ _ _ _ _ _ _)
                have HQ6 := Lib.hid (HQ5.out.below hb6)
                have HK6 := Lib.hid (HK5.out.below hb6)
                have HM6 := Lib.hid (HM5.out.below hb6)
                have hbw6 : Below w.heap.size w w6 := grow_step hbw5 hb6
                have cQ := HQ6.out.cell
                have lQ := HQ6.out.lt
                have q5 := HM6.out.box.lt
                have q6 := HM6.out.lt
                clear hE hb6 HQ5 HK5 HM5
                by_cases hE0 : E = 0
                · subst hE0
                  go_wp2_with fail
                  clear cQ lQ
                  refine (kGive_ok _ p s rs g b lo k A' c' la ma A c xs n HK6.out (by omega) HX8.out v1 v2 v3 v4 v5 none [] 0 (HEV.out.below hbw6) HEL.out (HFE.out none [] HEV.out) HR8.out.1 HR8.out.2 HH.out HE.out).mono ?_
                  rintro e w7 ⟨rfl, hK7, hk7⟩
                  have hM7 := HM6.out.but hk7 (by have := HD.out; intro h; rcases h with h | h | h <;> omega) (by have := HD.out; intro h; rcases h with h | h | h <;> omega)
                  have HK7 := Lib.hid hK7
                  have HM7 := Lib.hid hM7
                  have hbw7 : Below w.heap.size w w7 := hbw6.trans (hk7.below hbw6.size (by intro j h; rcases h with h | h | h <;> omega))
                  clear hK7 hM7 hk7 HK6 HM6 HQ6
                  go_wp2_with fail
                  refine (error_any 0 0 _ (HG.out.below hbw7) (i64_small (by decide) (by decide))).mono ?_
                  rintro e w8 ⟨rfl, hb8⟩
                  have HK8 := Lib.hid (HK7.out.below hb8)
                  have HM8 := Lib.hid (HM7.out.below hb8)
                  have hbw8 : Below w.heap.size w w8 := grow_step hbw7 hb8
                  have tg : ((n + 1 : Nat) : Int) = (n : Int) + 1 := by omega
                  go_wp2_with (go_at_call 29; refine (kGiven_any _ p s rs g b lo k A' c' la ma A c _ _ HK8.out).mono ?_; rintro e w' ⟨rfl, rfl⟩; rw [tg])
                  go_roundw
                  case rel => exact ⟨kk + 1, j + 1, n + 1, la, ma, xs.erase v1, by omega, by omega, by omega, rfl, by go_num, by go_num, by go_num, Lib.hid ⟨b, lo, A', c', A, c, Am', cm', bm', HK8.out, HM8.out, HD.out⟩, HLA, HXE, hbw8⟩
                  case measure => simp [intOf]; omega
                · have tE : (E == 0) = false := by simp [hE0]
                  have HN0 := Lib.hid hE0
                  clear hE0
                  go_wp2_with fail
                  clear cQ lQ
                  refine (kGive_bad _ p s rs g b lo k A' c' la ma A c xs n HK6.out (by omega) HX8.out v1 v2 v3 v4 v5 none [] 0 (HEV.out.below hbw6) HEL.out (HFE.out none [] HEV.out) HR8.out.1 HR8.out.2 HH.out E HE.out HN0.out).mono ?_
                  rintro e w7 ⟨rfl, hK7, hk7⟩
                  have hM7 := HM6.out.but hk7 (by have := HD.out; intro h; rcases h with h | h | h <;> omega) (by have := HD.out; intro h; rcases h with h | h | h <;> omega)
                  have HK7 := Lib.hid hK7
                  have HM7 := Lib.hid hM7
                  have hbw7 : Below w.heap.size w w7 := hbw6.trans (hk7.below hbw6.size (by intro j h; rcases h with h | h | h <;> omega))
                  clear hK7 hM7 hk7 HK6 HM6 HQ6
                  go_wp2_with fail
                  refine (error_any E E _ (HG.out.below hbw7) HEI.out).mono ?_
                  rintro e w8 ⟨rfl, hb8⟩
                  rw [show (E == E) = true by simp]
                  have HK8 := Lib.hid (HK7.out.below hb8)
                  have HM8 := Lib.hid (HM7.out.below hb8)
                  have hbw8 : Below w.heap.size w w8 := grow_step hbw7 hb8
                  go_wp2_with (go_at_call 29; refine (kGiven_any _ p s rs g b lo k A' c' la ma A c _ _ HK8.out).mono ?_; rintro e w' ⟨rfl, rfl⟩)
                  go_roundw
                  case rel => exact ⟨kk + 1, j + 1, n, la, ma, xs.erase v1, by omega, by omega, by omega, rfl, rfl, by go_num, by go_num, Lib.hid ⟨b, lo, A', c', A, c, Am', cm', bm', HK8.out, HM8.out, HD.out⟩, HLA, HXE, hbw8⟩
                  case measure => simp [intOf]; omega
              · have HH := Lib.hid hh
                have cQ := HQ.out.cell
                have lQ := HQ.out.lt
                clear hh
                go_wp2_with fail
                clear cQ lQ
                refine (kGive_no _ p s rs g b lo k A' c' la ma A c xs n HKa.out (by omega) HX8.out v1 v2 v3 v4 v5 none [] 0 (HEV.out.below hbw) HEL.out (HFE.out none [] HEV.out) HR8.out.1 HR8.out.2 HH.out).mono ?_
                rintro e w7 ⟨rfl, hK7, hk7⟩
                have hM7 := HMa.out.but hk7 (by intro h; rcases h with h | h | h <;> omega) (by intro h; rcases h with h | h | h <;> omega)
                have HK7 := Lib.hid hK7
                have HM7 := Lib.hid hM7
                have hbw7 : Below w.heap.size w w7 := hbw.trans (hk7.below hbw.size (by intro j h; rcases h with h | h | h <;> omega))
                clear hK7 hM7 hk7 HKa HMa HQ
                go_wp2_with fail
                refine (error_any 5 5 _ (HG.out.below hbw7) (i64_small (by decide) (by decide))).mono ?_
                rintro e w8 ⟨rfl, hb8⟩
                have HK8 := Lib.hid (HK7.out.below hb8)
                have HM8 := Lib.hid (HM7.out.below hb8)
                have hbw8 : Below w.heap.size w w8 := grow_step hbw7 hb8
                go_wp2_with (go_at_call 29; refine (kGiven_any _ p s rs g b lo k A' c' la ma A c _ _ HK8.out).mono ?_; rintro e w' ⟨rfl, rfl⟩)
                go_roundw
                case rel => exact ⟨kk + 1, j + 1, n, la, ma, xs, by omega, by omega, by omega, rfl, rfl, by go_num, by go_num, Lib.hid ⟨b, lo, A', c', A, c, Am, cm, bm, HK8.out, HM8.out, d1, d2, d3, d4, d5⟩, HLA, HX, hbw8⟩
                case measure => simp [intOf]; omega
          · have gq : ¬ (j : Int) < (qs.length : Int) := by omega
            by_cases hev : j < ess.length
            · have gv : (j : Int) < (ess.length : Int) := by omega
              obtain ⟨b2, off2, EA1, ec1, rfl, lb2, hce, hEE, hez1, _⟩ := HES.out j hev
              have hce := (hbr.cell (p := ⟨b2, off2 + j, none⟩) lb2).trans hce
              have lb2 := Nat.lt_of_lt_of_le lb2 hbr.size
              obtain ⟨es, hes⟩ : ∃ es, ess.getD j [] = es := ⟨_, rfl⟩
              rw [hes] at hce hEE hez1
              have HEV := Lib.hid hEE
              clear hes hEE
              have HQ := Lib.hid (Box.new wr 53 #[.int .i64 0, .int .i64 0, .int .i64 0, .int .i64 0, .int .i64 0])
              have HKa := Lib.hid (HK.out.below (grow_alloc (grow_refl _) (.cells #[.int .i64 0, .int .i64 0, .int .i64 0, .int .i64 0, .int .i64 0] 53)))
              have HMa := Lib.hid (HM.out.below (grow_alloc (grow_refl _) (.cells #[.int .i64 0, .int .i64 0, .int .i64 0, .int .i64 0, .int .i64 0] 53)))
              have hbw : Below w.heap.size w (wr.alloc (.cells #[.int .i64 0, .int .i64 0, .int .i64 0, .int .i64 0, .int .i64 0] 53)) := grow_alloc hbr _
              have HX8 : Hid (xs.length ≤ 1000) := Lib.hid (by have := HX.out; omega)
              have HEL : Hid (es.length ≤ 9223372036854775806) := Lib.hid (by first | omega | simp)
              have q4 : wr.heap.size ≠ gm ∧ wr.heap.size ≠ bm ∧ wr.heap.size ≠ g ∧ wr.heap.size ≠ b ∧ wr.heap.size ≠ k := by omega
              have cQ := HQ.out.cell
              have lQ := HQ.out.lt
              go_wp2_with fail
              clear cQ
              refine (mUse_any gm bm la ma Am cm xs 0 _ HMa.out HX8.out).mono ?_
              rintro e w5 (⟨rfl, hh, Am', cm', bm', hM5, ebm, hk5⟩ | ⟨rfl, hh, rfl⟩)
              · have HH := Lib.hid hh
                have hs5 := hk5.size
                have HQ5 := Lib.hid (HQ.out.but hk5 (by intro h; rcases h with h | h <;> omega))
                have HK5 := Lib.hid (HKa.out.but hk5 (by intro j j1 j2 h; rcases h with h | h <;> omega) (by intro h; rcases h with h | h <;> omega))
                have HM5 := Lib.hid hM5
                have hbw5 : Below w.heap.size w w5 := hbw.trans (hk5.below hbw.size (by intro j h; rcases h with h | h <;> omega))
                have HD : Hid (k < gm ∧ gm ≤ bm' ∧ b ≠ gm ∧ b ≠ bm' ∧ w.heap.size ≤ g) := Lib.hid (by simp at ebm; omega)
                have HXE : Hid ((xs.erase 0).length ≤ 8 ∧ ma ≤ 30) := Lib.hid (by have : (xs.erase 0).length ≤ xs.length := List.length_erase_le; have := HX.out; omega)
                have cQ := HQ5.out.cell
                have lQ := HQ5.out.lt
                clear hh hM5 hk5 ebm HKa HMa HQ
                go_wp2_with fail
                clear cQ lQ
                refine (rSure_any p 0 0 0 0 0 0 EA1 es ec1 A2 rs rc _ (HEV.out.below hbw5) HEL.out (HR.out.below hbw5) (by omega) HL.out).mono ?_
                rintro e w6 ⟨rfl, hb6⟩
                obtain ⟨E, hE⟩ : ∃ E, sureE p 0 0 0 0 0 0 es rs = E := ⟨_, rfl⟩
                rw [hE]
                have HE := Lib.hid hE
                have HEI : Hid (I64 E) := Lib.hid (by rw [← hE]; exact sureE_bdK _ _ _ _ _ _ _ _ _)
                have HQ6 := Lib.hid (HQ5.out.below hb6)
                have HK6 := Lib.hid (HK5.out.below hb6)
                have HM6 := Lib.hid (HM5.out.below hb6)
                have hbw6 : Below w.heap.size w w6 := grow_step hbw5 hb6
                have cQ := HQ6.out.cell
                have lQ := HQ6.out.lt
                have q5 := HM6.out.box.lt
                have q6 := HM6.out.lt
                clear hE hb6 HQ5 HK5 HM5
                by_cases hE0 : E = 0
                · subst hE0
                  go_wp2_with fail
                  clear cQ lQ
                  refine (kGive_ok _ p s rs g b lo k A' c' la ma A c xs n HK6.out (by omega) HX8.out 0 0 0 0 0 EA1 es ec1 (HEV.out.below hbw6) HEL.out (HFE.out EA1 es HEV.out) HR8.out.1 HR8.out.2 HH.out HE.out).mono ?_
                  rintro e w7 ⟨rfl, hK7, hk7⟩
                  have hM7 := HM6.out.but hk7 (by have := HD.out; intro h; rcases h with h | h | h <;> omega) (by have := HD.out; intro h; rcases h with h | h | h <;> omega)
                  have HK7 := Lib.hid hK7
                  have HM7 := Lib.hid hM7
                  have hbw7 : Below w.heap.size w w7 := hbw6.trans (hk7.below hbw6.size (by intro j h; rcases h with h | h | h <;> omega))
                  clear hK7 hM7 hk7 HK6 HM6 HQ6
                  go_wp2_with fail
                  refine (error_any 0 0 _ (HG.out.below hbw7) (i64_small (by decide) (by decide))).mono ?_
                  rintro e w8 ⟨rfl, hb8⟩
                  have HK8 := Lib.hid (HK7.out.below hb8)
                  have HM8 := Lib.hid (HM7.out.below hb8)
                  have hbw8 : Below w.heap.size w w8 := grow_step hbw7 hb8
                  have tg : ((n + 1 : Nat) : Int) = (n : Int) + 1 := by omega
                  go_wp2_with (go_at_call 29; refine (kGiven_any _ p s rs g b lo k A' c' la ma A c _ _ HK8.out).mono ?_; rintro e w' ⟨rfl, rfl⟩; rw [tg])
                  go_roundw
                  case rel => exact ⟨kk + 1, j + 1, n + 1, la, ma, xs.erase 0, by omega, by omega, by omega, rfl, by go_num, by go_num, by go_num, Lib.hid ⟨b, lo, A', c', A, c, Am', cm', bm', HK8.out, HM8.out, HD.out⟩, HLA, HXE, hbw8⟩
                  case measure => simp [intOf]; omega
                · have tE : (E == 0) = false := by simp [hE0]
                  have HN0 := Lib.hid hE0
                  clear hE0
                  go_wp2_with fail
                  clear cQ lQ
                  refine (kGive_bad _ p s rs g b lo k A' c' la ma A c xs n HK6.out (by omega) HX8.out 0 0 0 0 0 EA1 es ec1 (HEV.out.below hbw6) HEL.out (HFE.out EA1 es HEV.out) HR8.out.1 HR8.out.2 HH.out E HE.out HN0.out).mono ?_
                  rintro e w7 ⟨rfl, hK7, hk7⟩
                  have hM7 := HM6.out.but hk7 (by have := HD.out; intro h; rcases h with h | h | h <;> omega) (by have := HD.out; intro h; rcases h with h | h | h <;> omega)
                  have HK7 := Lib.hid hK7
                  have HM7 := Lib.hid hM7
                  have hbw7 : Below w.heap.size w w7 := hbw6.trans (hk7.below hbw6.size (by intro j h; rcases h with h | h | h <;> omega))
                  clear hK7 hM7 hk7 HK6 HM6 HQ6
                  go_wp2_with fail
                  refine (error_any E E _ (HG.out.below hbw7) HEI.out).mono ?_
                  rintro e w8 ⟨rfl, hb8⟩
                  rw [show (E == E) = true by simp]
                  have HK8 := Lib.hid (HK7.out.below hb8)
                  have HM8 := Lib.hid (HM7.out.below hb8)
                  have hbw8 : Below w.heap.size w w8 := grow_step hbw7 hb8
                  go_wp2_with (go_at_call 29; refine (kGiven_any _ p s rs g b lo k A' c' la ma A c _ _ HK8.out).mono ?_; rintro e w' ⟨rfl, rfl⟩)
                  go_roundw
                  case rel => exact ⟨kk + 1, j + 1, n, la, ma, xs.erase 0, by omega, by omega, by omega, rfl, rfl, by go_num, by go_num, Lib.hid ⟨b, lo, A', c', A, c, Am', cm', bm', HK8.out, HM8.out, HD.out⟩, HLA, HXE, hbw8⟩
                  case measure => simp [intOf]; omega
              · have HH := Lib.hid hh
                have cQ := HQ.out.cell
                have lQ := HQ.out.lt
                clear hh
                go_wp2_with fail
                clear cQ lQ
                refine (kGive_no _ p s rs g b lo k A' c' la ma A c xs n HKa.out (by omega) HX8.out 0 0 0 0 0 EA1 es ec1 (HEV.out.below hbw) HEL.out (HFE.out EA1 es HEV.out) HR8.out.1 HR8.out.2 HH.out).mono ?_
                rintro e w7 ⟨rfl, hK7, hk7⟩
                have hM7 := HMa.out.but hk7 (by intro h; rcases h with h | h | h <;> omega) (by intro h; rcases h with h | h | h <;> omega)
                have HK7 := Lib.hid hK7
                have HM7 := Lib.hid hM7
                have hbw7 : Below w.heap.size w w7 := hbw.trans (hk7.below hbw.size (by intro j h; rcases h with h | h | h <;> omega))
                clear hK7 hM7 hk7 HKa HMa HQ
                go_wp2_with fail
                refine (error_any 5 5 _ (HG.out.below hbw7) (i64_small (by decide) (by decide))).mono ?_
                rintro e w8 ⟨rfl, hb8⟩
                have HK8 := Lib.hid (HK7.out.below hb8)
                have HM8 := Lib.hid (HM7.out.below hb8)
                have hbw8 : Below w.heap.size w w8 := grow_step hbw7 hb8
                go_wp2_with (go_at_call 29; refine (kGiven_any _ p s rs g b lo k A' c' la ma A c _ _ HK8.out).mono ?_; rintro e w' ⟨rfl, rfl⟩)
                go_roundw
                case rel => exact ⟨kk + 1, j + 1, n, la, ma, xs, by omega, by omega, by omega, rfl, rfl, by go_num, by go_num, Lib.hid ⟨b, lo, A', c', A, c, Am, cm, bm, HK8.out, HM8.out, d1, d2, d3, d4, d5⟩, HLA, HX, hbw8⟩
                case measure => simp [intOf]; omega
            · have gv : ¬ (j : Int) < (ess.length : Int) := by omega
              have HEV : Hid (EvsAt w none []) := Lib.hid (EvsAt.nil_ _ _)
              have HQ := Lib.hid (Box.new wr 53 #[.int .i64 0, .int .i64 0, .int .i64 0, .int .i64 0, .int .i64 0])
              have HKa := Lib.hid (HK.out.below (grow_alloc (grow_refl _) (.cells #[.int .i64 0, .int .i64 0, .int .i64 0, .int .i64 0, .int .i64 0] 53)))
              have HMa := Lib.hid (HM.out.below (grow_alloc (grow_refl _) (.cells #[.int .i64 0, .int .i64 0, .int .i64 0, .int .i64 0, .int .i64 0] 53)))
              have hbw : Below w.heap.size w (wr.alloc (.cells #[.int .i64 0, .int .i64 0, .int .i64 0, .int .i64 0, .int .i64 0] 53)) := grow_alloc hbr _
              have HX8 : Hid (xs.length ≤ 1000) := Lib.hid (by have := HX.out; omega)
              have HEL : Hid (([] : List (Int × Int)).length ≤ 9223372036854775806) := Lib.hid (by first | omega | simp)
              have q4 : wr.heap.size ≠ gm ∧ wr.heap.size ≠ bm ∧ wr.heap.size ≠ g ∧ wr.heap.size ≠ b ∧ wr.heap.size ≠ k := by omega
              have cQ := HQ.out.cell
              have lQ := HQ.out.lt
              go_wp2_with fail
              clear cQ
              refine (mUse_any gm bm la ma Am cm xs 0 _ HMa.out HX8.out).mono ?_
              rintro e w5 (⟨rfl, hh, Am', cm', bm', hM5, ebm, hk5⟩ | ⟨rfl, hh, rfl⟩)
              · have HH := Lib.hid hh
                have hs5 := hk5.size
                have HQ5 := Lib.hid (HQ.out.but hk5 (by intro h; rcases h with h | h <;> omega))
                have HK5 := Lib.hid (HKa.out.but hk5 (by intro j j1 j2 h; rcases h with h | h <;> omega) (by intro h; rcases h with h | h <;> omega))
                have HM5 := Lib.hid hM5
                have hbw5 : Below w.heap.size w w5 := hbw.trans (hk5.below hbw.size (by intro j h; rcases h with h | h <;> omega))
                have HD : Hid (k < gm ∧ gm ≤ bm' ∧ b ≠ gm ∧ b ≠ bm' ∧ w.heap.size ≤ g) := Lib.hid (by simp at ebm; omega)
                have HXE : Hid ((xs.erase 0).length ≤ 8 ∧ ma ≤ 30) := Lib.hid (by have : (xs.erase 0).length ≤ xs.length := List.length_erase_le; have := HX.out; omega)
                have cQ := HQ5.out.cell
                have lQ := HQ5.out.lt
                clear hh hM5 hk5 ebm HKa HMa HQ
                go_wp2_with fail
                clear cQ lQ
                refine (rSure_any p 0 0 0 0 0 0 none [] 0 A2 rs rc _ (HEV.out.below hbw5) HEL.out (HR.out.below hbw5) (by omega) HL.out).mono ?_
                rintro e w6 ⟨rfl, hb6⟩
                obtain ⟨E, hE⟩ : ∃ E, sureE p 0 0 0 0 0 0 [] rs = E := ⟨_, rfl⟩
                rw [hE]
                have HE := Lib.hid hE
                have HEI : Hid (I64 E) := Lib.hid (by rw [← hE]; exact sureE_bdK _ _ _ _ _ _ _ _ _)
                have HQ6 := Lib.hid (HQ5.out.below hb6)
                have HK6 := Lib.hid (HK5.out.below hb6)
                have HM6 := Lib.hid (HM5.out.below hb6)
                have hbw6 : Below w.heap.size w w6 := grow_step hbw5 hb6
                have cQ := HQ6.out.cell
                have lQ := HQ6.out.lt
                have q5 := HM6.out.box.lt
                have q6 := HM6.out.lt
                clear hE hb6 HQ5 HK5 HM5
                by_cases hE0 : E = 0
                · subst hE0
                  go_wp2_with fail
                  clear cQ lQ
                  refine (kGive_ok _ p s rs g b lo k A' c' la ma A c xs n HK6.out (by omega) HX8.out 0 0 0 0 0 none [] 0 (HEV.out.below hbw6) HEL.out (HFE.out none [] HEV.out) HR8.out.1 HR8.out.2 HH.out HE.out).mono ?_
                  rintro e w7 ⟨rfl, hK7, hk7⟩
                  have hM7 := HM6.out.but hk7 (by have := HD.out; intro h; rcases h with h | h | h <;> omega) (by have := HD.out; intro h; rcases h with h | h | h <;> omega)
                  have HK7 := Lib.hid hK7
                  have HM7 := Lib.hid hM7
                  have hbw7 : Below w.heap.size w w7 := hbw6.trans (hk7.below hbw6.size (by intro j h; rcases h with h | h | h <;> omega))
                  clear hK7 hM7 hk7 HK6 HM6 HQ6
                  go_wp2_with fail
                  refine (error_any 0 0 _ (HG.out.below hbw7) (i64_small (by decide) (by decide))).mono ?_
                  rintro e w8 ⟨rfl, hb8⟩
                  have HK8 := Lib.hid (HK7.out.below hb8)
                  have HM8 := Lib.hid (HM7.out.below hb8)
                  have hbw8 : Below w.heap.size w w8 := grow_step hbw7 hb8
                  have tg : ((n + 1 : Nat) : Int) = (n : Int) + 1 := by omega
                  go_wp2_with (go_at_call 29; refine (kGiven_any _ p s rs g b lo k A' c' la ma A c _ _ HK8.out).mono ?_; rintro e w' ⟨rfl, rfl⟩; rw [tg])
                  go_roundw
                  case rel => exact ⟨kk + 1, j + 1, n + 1, la, ma, xs.erase 0, by omega, by omega, by omega, rfl, by go_num, by go_num, by go_num, Lib.hid ⟨b, lo, A', c', A, c, Am', cm', bm', HK8.out, HM8.out, HD.out⟩, HLA, HXE, hbw8⟩
                  case measure => simp [intOf]; omega
                · have tE : (E == 0) = false := by simp [hE0]
                  have HN0 := Lib.hid hE0
                  clear hE0
                  go_wp2_with fail
                  clear cQ lQ
                  refine (kGive_bad _ p s rs g b lo k A' c' la ma A c xs n HK6.out (by omega) HX8.out 0 0 0 0 0 none [] 0 (HEV.out.below hbw6) HEL.out (HFE.out none [] HEV.out) HR8.out.1 HR8.out.2 HH.out E HE.out HN0.out).mono ?_
                  rintro e w7 ⟨rfl, hK7, hk7⟩
                  have hM7 := HM6.out.but hk7 (by have := HD.out; intro h; rcases h with h | h | h <;> omega) (by have := HD.out; intro h; rcases h with h | h | h <;> omega)
                  have HK7 := Lib.hid hK7
                  have HM7 := Lib.hid hM7
                  have hbw7 : Below w.heap.size w w7 := hbw6.trans (hk7.below hbw6.size (by intro j h; rcases h with h | h | h <;> omega))
                  clear hK7 hM7 hk7 HK6 HM6 HQ6
                  go_wp2_with fail
                  refine (error_any E E _ (HG.out.below hbw7) HEI.out).mono ?_
                  rintro e w8 ⟨rfl, hb8⟩
                  rw [show (E == E) = true by simp]
                  have HK8 := Lib.hid (HK7.out.below hb8)
                  have HM8 := Lib.hid (HM7.out.below hb8)
                  have hbw8 : Below w.heap.size w w8 := grow_step hbw7 hb8
                  go_wp2_with (go_at_call 29; refine (kGiven_any _ p s rs g b lo k A' c' la ma A c _ _ HK8.out).mono ?_; rintro e w' ⟨rfl, rfl⟩)
                  go_roundw
                  case rel => exact ⟨kk + 1, j + 1, n, la, ma, xs.erase 0, by omega, by omega, by omega, rfl, rfl, by go_num, by go_num, Lib.hid ⟨b, lo, A', c', A, c, Am', cm', bm', HK8.out, HM8.out, HD.out⟩, HLA, HXE, hbw8⟩
                  case measure => simp [intOf]; omega
              · have HH := Lib.hid hh
                have cQ := HQ.out.cell
                have lQ := HQ.out.lt
                clear hh
                go_wp2_with fail
                clear cQ lQ
                refine (kGive_no _ p s rs g b lo k A' c' la ma A c xs n HKa.out (by omega) HX8.out 0 0 0 0 0 none [] 0 (HEV.out.below hbw) HEL.out (HFE.out none [] HEV.out) HR8.out.1 HR8.out.2 HH.out).mono ?_
                rintro e w7 ⟨rfl, hK7, hk7⟩
                have hM7 := HMa.out.but hk7 (by intro h; rcases h with h | h | h <;> omega) (by intro h; rcases h with h | h | h <;> omega)
                have HK7 := Lib.hid hK7
                have HM7 := Lib.hid hM7
                have hbw7 : Below w.heap.size w w7 := hbw.trans (hk7.below hbw.size (by intro j h; rcases h with h | h | h <;> omega))
                clear hK7 hM7 hk7 HKa HMa HQ
                go_wp2_with fail
                refine (error_any 5 5 _ (HG.out.below hbw7) (i64_small (by decide) (by decide))).mono ?_
                rintro e w8 ⟨rfl, hb8⟩
                have HK8 := Lib.hid (HK7.out.below hb8)
                have HM8 := Lib.hid (HM7.out.below hb8)
                have hbw8 : Below w.heap.size w w8 := grow_step hbw7 hb8
                go_wp2_with (go_at_call 29; refine (kGiven_any _ p s rs g b lo k A' c' la ma A c _ _ HK8.out).mono ?_; rintro e w' ⟨rfl, rfl⟩)
                go_roundw
                case rel => exact ⟨kk + 1, j + 1, n, la, ma, xs, by omega, by omega, by omega, rfl, rfl, by go_num, by go_num, Lib.hid ⟨b, lo, A', c', A, c, Am, cm, bm, HK8.out, HM8.out, d1, d2, d3, d4, d5⟩, HLA, HX, hbw8⟩
                case measure => simp [intOf]; omega
      · go_wp2_with fail
        go_ret
        exact ⟨rfl, hbr⟩
    · go_wp2_with fail
      go_ret
      exact ⟨rfl, hbr⟩

set_option maxRecDepth 100000 in
theorem keeperPlays_walks (H : Type) (enc : TypeId × Value → H) : WalksD enc Tryd.prog Door 5 Tryd.f5 := by
  intro W base args ds p hval hA hlt hsz hsh hdoor
  have hsz0 := hsz
  rw [Tryd.params5] at hA hval
  obtain ⟨v0, vs0, d0, ds0, p0, q0, hargs, rfl, rfl, h0, r0⟩ := trodAll_cons hA
  obtain ⟨v1, vs1, d1, ds1, p1, q1, rfl, rfl, rfl, h1, r1⟩ := trodAll_cons r0
  obtain ⟨v2, vs2, d2, ds2, p2, q2, rfl, rfl, rfl, h2, r2⟩ := trodAll_cons r1
  obtain ⟨v3, vs3, d3, ds3, p3, q3, rfl, rfl, rfl, h3, r3⟩ := trodAll_cons r2
  obtain ⟨v4, vs4, d4, ds4, p4, q4, rfl, rfl, rfl, h4, r4⟩ := trodAll_cons r3
  obtain ⟨v5, vs5, d5, ds5, p5, q5, rfl, rfl, rfl, h5, r5⟩ := trodAll_cons r4
  obtain ⟨v6, vs6, d6, ds6, p6, q6, rfl, rfl, rfl, h6, r6⟩ := trodAll_cons r5
  obtain ⟨rfl, rfl, rfl⟩ := trodAll_nil r6
  obtain rfl : args = #[v0, v1, v2, v3, v4, v5, v6] := by cases args; simp_all
  obtain ⟨a0, rfl, w0⟩ := op_int (hval 0 3 v0 rfl rfl) h0
  obtain ⟨a1, rfl, w1⟩ := op_int (hval 1 3 v1 rfl rfl) h1
  obtain ⟨a2, rfl, w2⟩ := op_int (hval 2 3 v2 rfl rfl) h2
  obtain ⟨A3, a3, c3, rfl, w3, z3, y3, g3⟩ := op_rules (hval 3 42 v3 rfl rfl) h3 (fun x hx => hlt x (by simp [hx])) (w_each hsz 3 42 _ (by rw [Tryd.params5]; rfl) rfl)
  obtain ⟨A4, a4, c4, rfl, w4, i4, z4⟩ := op_ints (hval 4 43 v4 rfl rfl) h4 (fun x hx => hlt x (by simp [hx])) (w_each hsz 4 43 _ (by rw [Tryd.params5]; rfl) rfl)
  obtain ⟨A5, a5, c5, rfl, w5, z5, y5⟩ := op_quotes (hval 5 72 v5 rfl rfl) h5 (fun x hx => hlt x (by simp [hx])) (w_each hsz 5 72 _ (by rw [Tryd.params5]; rfl) rfl)
  obtain ⟨A6, a6, c6, rfl, w6, z6, y6⟩ := op_evss (hval 6 73 v6 rfl rfl) h6 (fun x hx => hlt x (by simp [hx])) (w_each hsz 6 73 _ (by rw [Tryd.params5]; rfl) rfl)
  exact keeperPlays_walk W a0 a1 a2 A3 a3 c3 A4 a4 c4 A5 a5 c5 A6 a6 c6 w0 w1 w2 w3 z3 y3 g3 w4 i4 z4 w5 z5 y5 w6 z6 y6 hdoor

set_option maxRecDepth 100000 in
theorem keeperPlays_lifted (os : Os) (started : os.Started) (H : Type) (enc : TypeId × Value → H) :
    ReturnsInHanded {} Tryd.checked os 5 .any (fun w args => (Rows.keeperPlaysSpec.pre enc Tryd.checked.prog Tryd.f5 [] false w args ∧ laidMetH Tryd.checked.prog LaidD w) ∧ sizedMet enc Tryd.checked.prog Tryd.f5 (OpenSpec.ofChange Rows.keeperPlaysSpec) false w args) (Rows.keeperPlaysSpec.post enc Tryd.checked.prog Tryd.f5 false true false false) :=
  returns_of_walkD (C := Tryd.checked) (s := Rows.keeperPlaysSpec) (L := LaidD) (D := Door) own started (by kernel_rfl) Tryd.func5
    (ChangeSpec.witness_at (enc := enc) (C := Tryd.checked) (os := os) (X := fun w _ => laidMetH Tryd.prog LaidD w) false (laidWorld os) #[.int .i64 0, .int .i64 0, .int .i64 0, .slice none 0 0, .slice none 0 0, .slice none 0 0, .slice none 0 0] 8 rfl (by kernel_rfl) (by kernel_rfl) (by kernel_rfl) (by kernel_rfl) (by kernel_rfl) (laidWorld_met os _))
    (fun W h => door_of_laid h) laidOut (by kernel_rfl) rfl Tryd.underlying4 rfl (fun ds h => by match ds, h with | [_, _, _, _, _, _, _], _ => rfl) (keeperPlays_walks H enc)

theorem keeperPlays_bare : Rows.KeeperPlaysSaid :=
  OpenClaim.holds_of_wide 5 Tryd.f5 rfl rfl rfl rfl rfl rfl rfl ⟨rfl, rfl, rfl, rfl, rfl⟩ rfl rfl rfl rfl rfl (by kernel_rfl) Tryd.func5 (by kernel_rfl)
    (of_decide_eq_true (by kernel_rfl)) (by unfold Func.isWrapper; rw [if_neg (of_decide_eq_false (by kernel_rfl))]; exact ⟨rfl, rfl⟩)
    (fun os started H enc _ => keeperPlays_lifted os started H enc)

theorem keeperPlays_holds : Rows.KeeperPlaysCardSaid :=
  Claim7.holds_tied_plain_at .later [] [.handle] true Rows.keeperPlaysCard.stood.harness true
    keeperPlays_bare (fun _ h => by cases h) (by kernel_rfl) (fun _ h => by cases h) keeperPlays_row_tie rfl ⟨rfl, rfl⟩ (by kernel_rfl) rfl
    (fun f fn hf hfn => by
      obtain rfl : f = 5 := Option.some.inj ((show Tryd.prog.funcNamed "bootstair/stairlaw2.KeeperPlays" = some 5 by kernel_rfl).symm.trans hf) |>.symm
      obtain rfl : fn = Tryd.f5 := (Option.some.inj (Tryd.func5.symm.trans hfn)).symm
      exact ⟨by kernel_rfl, fun j t ht => by
        have hm : t ∈ Tryd.f5.params.toList := by simpa using Array.mem_of_getElem? ht
        have hall : (Tryd.f5.params.toList.all fun u => !Tryd.prog.wantsStandIn u) = true := by kernel_rfl
        exact (show Tryd.prog.wantsStandIn t = false by simpa using List.all_eq_true.1 hall t hm)⟩)
    (by kernel_rfl)

end Go.Proofs.YtdedllfgeekogaaDoor
