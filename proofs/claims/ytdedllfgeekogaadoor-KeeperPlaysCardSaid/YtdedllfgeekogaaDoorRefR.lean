/- The walks of the reference: rules. The walks of the reference: whether rules fit a bank; the mask of rules. -/
import Derived.Test.YtdedllfgeekogaaDoorRows
import Derived.Test.YtdedllfgeekogaaDoorNum
import Derived.Test.YtdedllfgeekogaaDoorBase
import Derived.Test.YtdedllfgeekogaaDoorMeas
import Derived.Test.YtdedllfgeekogaaDoorBank
import Derived.Test.YtdedllfgeekogaaDoorRule
import Derived.Test.YtdedllfgeekogaaDoorRefA
import Derived.Test.YtdedllfgeekogaaDoorRefB
import Derived.WalkKit
import Derived.Lib.Hide
import Derived.Deep.QuietTactic
import Derived.BigQuiet
namespace Go.Proofs.YtdedllfgeekogaaDoor
open Go.RowKit

set_option maxHeartbeats 2000000 in
theorem rRules_any (A : Option Addr) (c : Nat) (rs : List (Int × List Int)) (w : World) (hA : RulesAt w A rs) (hbig : rs.length ≤ 9223372036854775806) (hg : ∀ r ∈ rs, r.2.length ≤ 9223372036854775806) :
    Calls Tryd.prog 25 #[.slice A rs.length c] w fun e w' => e = .returned (.int .i64 (rulesE rs)) ∧ Below w.heap.size w w' := by
  by_cases hl : 8 < rs.length
  · have HE : Hid (rulesE rs = 4) := Lib.hid (by unfold rulesE; rw [if_pos hl])
    go_enter Tryd.func25, Tryd.ntmps25
    go_wp2
    go_ret
    exact ⟨by rw [HE.out]; rfl, (by repeat (first | (with_reducible exact grow_refl _) | (with_reducible assumption) | (with_reducible refine grow_alloc ?_ _) | (with_reducible refine grow_set ?_ (by first | exact Nat.le_refl _ | (simp; done) | (simp; omega) | omega) _) | (with_reducible refine grow_drewN ?_ _) | (with_reducible refine grow_drew ?_) | (with_reducible refine grow_step ?_ (by assumption)) | (with_reducible refine grow_base ?_ (by assumption))))⟩
  · have HE : Hid (rulesE rs = ruleGo [] rs) := Lib.hid (by unfold rulesE; rw [if_neg hl])
    have HA := Lib.hid hA
    have HG := Lib.hid hg
    clear hA hbig hg
    go_enter Tryd.func25, Tryd.ntmps25
    go_wp2
    go_loopw [3, 4, 5, 6] (fun i _ _ _ wr => ∃ k : Nat, k ≤ rs.length ∧ i = .int .i64 k ∧ Hid (ruleGo [] rs = ruleGo (rs.take k) (rs.drop k)) ∧ Below w.heap.size w wr) (fun i _ _ _ _ => rs.length - (intOf i).toNat)
    case atStart => exact ⟨0, Nat.zero_le _, rfl, Lib.hid rfl, (by repeat (first | (with_reducible exact grow_refl _) | (with_reducible assumption) | (with_reducible refine grow_alloc ?_ _) | (with_reducible refine grow_set ?_ (by first | exact Nat.le_refl _ | (simp; done) | (simp; omega) | omega) _) | (with_reducible refine grow_drewN ?_ _) | (with_reducible refine grow_drew ?_) | (with_reducible refine grow_step ?_ (by assumption)) | (with_reducible refine grow_base ?_ (by assumption))))⟩
    case round =>
      obtain ⟨k, hk, rfl, HP, hb⟩ := hrel
      by_cases hlt : k < rs.length
      · have HA2 := Lib.hid (HA.out.below hb)
        obtain ⟨b, off, GA, gc, rfl, hblt, h1, h2, hI⟩ := HA2.out k hlt
        have hd := drop_cons rs (0, []) k hlt
        have hs := take_snoc rs (0, []) k hlt
        obtain ⟨⟨x, g⟩, hxe⟩ : ∃ x, rs.getD k (0, []) = x := ⟨_, rfl⟩
        have hmem : (x, g) ∈ rs := by rw [← hxe, List.getD_eq_getElem?_getD, List.getElem?_eq_getElem hlt]; exact List.getElem_mem hlt
        have hgl := HG.out _ hmem
        rw [hxe] at h1 h2 hI hd hs
        simp only at h1 h2 hI hgl
        have HS : Hid (ruleGo [] rs = if okReg x then (if 12 < g.length then 4 else if g.all okM then (if (rs.take k).any (fun s => s.1 == x) then 7 else ruleGo (rs.take (k + 1)) (rs.drop (k + 1))) else 1) else 1) :=
          Lib.hid (by rw [HP.out, hd, ruleGo_cons, hs])
        have HI := Lib.hid hI
        have HX := Lib.hid hxe
        clear HP hd hs hxe hmem hI
        by_cases hx1 : x < 0
        · have HF : Hid (ruleGo [] rs = 1) := Lib.hid (by rw [HS.out, show okReg x = false from decide_eq_false (by omega)]; rfl)
          go_wp2_with fail
          go_ret
          exact ⟨by rw [HE.out, HF.out]; rfl, (by repeat (first | (with_reducible exact grow_refl _) | (with_reducible assumption) | (with_reducible refine grow_alloc ?_ _) | (with_reducible refine grow_set ?_ (by first | exact Nat.le_refl _ | (simp; done) | (simp; omega) | omega) _) | (with_reducible refine grow_drewN ?_ _) | (with_reducible refine grow_drew ?_) | (with_reducible refine grow_step ?_ (by assumption)) | (with_reducible refine grow_base ?_ (by assumption))))⟩
        · by_cases hx2 : 7 < x
          · have HF : Hid (ruleGo [] rs = 1) := Lib.hid (by rw [HS.out, show okReg x = false from decide_eq_false (by omega)]; rfl)
            go_wp2_with fail
            go_ret
            exact ⟨by rw [HE.out, HF.out]; rfl, (by repeat (first | (with_reducible exact grow_refl _) | (with_reducible assumption) | (with_reducible refine grow_alloc ?_ _) | (with_reducible refine grow_set ?_ (by first | exact Nat.le_refl _ | (simp; done) | (simp; omega) | omega) _) | (with_reducible refine grow_drewN ?_ _) | (with_reducible refine grow_drew ?_) | (with_reducible refine grow_step ?_ (by assumption)) | (with_reducible refine grow_base ?_ (by assumption))))⟩
          · have hox : okReg x = true := decide_eq_true (by omega)
            by_cases hgl2 : 12 < g.length
            · have HF : Hid (ruleGo [] rs = 4) := Lib.hid (by rw [HS.out, hox, if_pos rfl, if_pos hgl2])
              clear hox
              go_wp2_with fail
              go_ret
              exact ⟨by rw [HE.out, HF.out]; rfl, (by repeat (first | (with_reducible exact grow_refl _) | (with_reducible assumption) | (with_reducible refine grow_alloc ?_ _) | (with_reducible refine grow_set ?_ (by first | exact Nat.le_refl _ | (simp; done) | (simp; omega) | omega) _) | (with_reducible refine grow_drewN ?_ _) | (with_reducible refine grow_drew ?_) | (with_reducible refine grow_step ?_ (by assumption)) | (with_reducible refine grow_base ?_ (by assumption))))⟩
            · have HS2 : Hid (ruleGo [] rs = if g.all okM then (if (rs.take k).any (fun s => s.1 == x) then 7 else ruleGo (rs.take (k + 1)) (rs.drop (k + 1))) else 1) := Lib.hid (by rw [HS.out, hox, if_pos rfl, if_neg hgl2])
              clear hox HS
              go_wp2_with fail
              go_loop [4, 5] (fun j _ => ∃ q : Nat, q ≤ g.length ∧ j = .int .i64 q ∧ Hid ((g.take q).all okM = true)) (fun j _ => g.length - (intOf j).toNat)
              case atStart => exact ⟨0, Nat.zero_le _, rfl, Lib.hid rfl⟩
              case round =>
                obtain ⟨q, hq, rfl, HQ⟩ := hrel
                by_cases hlt2 : q < g.length
                · obtain ⟨b2, off2, rfl, hb2lt, hc⟩ := HI.out q hlt2
                  obtain ⟨y, hye⟩ : ∃ y, g.getD q 0 = y := ⟨_, rfl⟩
                  rw [hye] at hc
                  have HY := Lib.hid hye
                  clear hye
                  cases hm : okM y
                  · have HF : Hid (ruleGo [] rs = 1) := Lib.hid (by rw [HS2.out, all_not g q hlt2 (by rw [HY.out]; exact hm)]; rfl)
                    go_wp2_with (go_at_call 24; refine (rIs_any _ _).mono ?_; rintro e w' ⟨rfl, rfl⟩)
                    go_ret
                    exact ⟨by rw [HE.out, HF.out]; rfl, (by repeat (first | (with_reducible exact grow_refl _) | (with_reducible assumption) | (with_reducible refine grow_alloc ?_ _) | (with_reducible refine grow_set ?_ (by first | exact Nat.le_refl _ | (simp; done) | (simp; omega) | omega) _) | (with_reducible refine grow_drewN ?_ _) | (with_reducible refine grow_drew ?_) | (with_reducible refine grow_step ?_ (by assumption)) | (with_reducible refine grow_base ?_ (by assumption))))⟩
                  · have HQ2 := Lib.hid (all_step g q hlt2 HQ.out (by rw [HY.out]; exact hm))
                    go_wp2_with (go_at_call 24; refine (rIs_any _ _).mono ?_; rintro e w' ⟨rfl, rfl⟩)
                    go_round
                    case rel => exact ⟨q + 1, by omega, by go_num, HQ2⟩
                    case measure => simp [intOf]; omega
                · have hall : g.all okM = true := by have := HQ.out; rwa [List.take_of_length_le (by omega)] at this
                  have HS3 : Hid (ruleGo [] rs = if (rs.take k).any (fun s => s.1 == x) then 7 else ruleGo (rs.take (k + 1)) (rs.drop (k + 1))) := Lib.hid (by rw [HS2.out, hall, if_pos rfl])
                  clear hall HS2 HQ
                  go_wp2_with fail
                  go_loopw [6] (fun j wr2 => ∃ q : Nat, q ≤ k ∧ j = .int .i64 q ∧ Hid ((rs.take q).any (fun s => s.1 == x) = false) ∧ Below wr.heap.size wr wr2) (fun j _ => k - (intOf j).toNat)
                  case atStart => exact ⟨0, Nat.zero_le _, rfl, Lib.hid rfl, (by repeat (first | (with_reducible exact grow_refl _) | (with_reducible assumption) | (with_reducible refine grow_alloc ?_ _) | (with_reducible refine grow_set ?_ (by first | exact Nat.le_refl _ | (simp; done) | (simp; omega) | omega) _) | (with_reducible refine grow_drewN ?_ _) | (with_reducible refine grow_drew ?_) | (with_reducible refine grow_step ?_ (by assumption)) | (with_reducible refine grow_base ?_ (by assumption))))⟩
                  case round =>
                    obtain ⟨q2, hq2, rfl, HN, hb2⟩ := hrel
                    by_cases hlt3 : q2 < k
                    · obtain ⟨b3, off3, GA3, gc3, e3, _, p1, p2, _⟩ := (HA2.out.below hb2) q2 (by omega)
                      injection e3 with e3; injection e3 with r1 r2; subst r1; subst r2
                      obtain ⟨b4, off4, GA4, gc4, e4, _, o1, o2, _⟩ := (HA2.out.below hb2) k (by omega)
                      injection e4 with e4; injection e4 with r1 r2; subst r1; subst r2
                      rw [HX.out] at o1
                      simp only at o1
                      clear p2 o2 h1 h2
                      obtain ⟨y, hye⟩ : ∃ y, (rs.getD q2 (0, [])).1 = y := ⟨_, rfl⟩
                      rw [hye] at p1
                      have HY := Lib.hid hye
                      clear hye
                      by_cases hyx : y = x
                      · have t : (y == x) = true := by simp [hyx]
                        have HF : Hid (ruleGo [] rs = 7) := Lib.hid (by
                          have h : (rs.take k).any (fun s => s.1 == x) = true := anyR_at (rs := rs.take k) q2 (by rw [List.length_take]; omega) (by
                            rw [List.getD_eq_getElem?_getD, List.getElem?_take_of_lt hlt3, ← List.getD_eq_getElem?_getD, HY.out]; exact t)
                          rw [HS3.out, h, if_pos rfl])
                        clear hyx
                        go_wp2_with fail
                        go_quiet (fail)
                        go_wp2_with fail
                        go_ret
                        exact ⟨by rw [HE.out, HF.out]; rfl, (by repeat (first | (with_reducible exact grow_refl _) | (with_reducible assumption) | (with_reducible refine grow_alloc ?_ _) | (with_reducible refine grow_set ?_ (by first | exact Nat.le_refl _ | (simp; done) | (simp; omega) | omega) _) | (with_reducible refine grow_drewN ?_ _) | (with_reducible refine grow_drew ?_) | (with_reducible refine grow_step ?_ (by assumption)) | (with_reducible refine grow_base ?_ (by assumption))))⟩
                      · have t : (y == x) = false := by simp [hyx]
                        have HN2 := Lib.hid (anyR_step (rs := rs) q2 (by omega) HN.out (by rw [HY.out]; exact t))
                        clear hyx
                        go_wp2_with fail
                        go_quiet (fail)
                        go_wp2_with fail
                        go_roundw
                        case rel => exact ⟨q2 + 1, by omega, by go_num, HN2, grow_drewN hb2 _⟩
                        case measure => simp [intOf]; omega
                    · obtain rfl : q2 = k := by omega
                      have HF : Hid (ruleGo [] rs = ruleGo (rs.take (q2 + 1)) (rs.drop (q2 + 1))) := Lib.hid (by rw [HS3.out, HN.out]; rfl)
                      go_wp2_with fail
                      go_roundw
                      case rel => exact ⟨q2 + 1, by omega, by go_num, HF, (by repeat (first | (with_reducible exact grow_refl _) | (with_reducible assumption) | (with_reducible refine grow_alloc ?_ _) | (with_reducible refine grow_set ?_ (by first | exact Nat.le_refl _ | (simp; done) | (simp; omega) | omega) _) | (with_reducible refine grow_drewN ?_ _) | (with_reducible refine grow_drew ?_) | (with_reducible refine grow_step ?_ (by assumption)) | (with_reducible refine grow_base ?_ (by assumption))))⟩
                      case measure => simp [intOf]; omega
      · have HF : Hid (ruleGo [] rs = 0) := Lib.hid (by rw [HP.out, List.drop_eq_nil_of_le (by omega)]; rfl)
        go_wp2
        go_ret
        exact ⟨by rw [HE.out, HF.out]; rfl, (by repeat (first | (with_reducible exact grow_refl _) | (with_reducible assumption) | (with_reducible refine grow_alloc ?_ _) | (with_reducible refine grow_set ?_ (by first | exact Nat.le_refl _ | (simp; done) | (simp; omega) | omega) _) | (with_reducible refine grow_drewN ?_ _) | (with_reducible refine grow_drew ?_) | (with_reducible refine grow_step ?_ (by assumption)) | (with_reducible refine grow_base ?_ (by assumption))))⟩

end Go.Proofs.YtdedllfgeekogaaDoor

namespace Go.Proofs.YtdedllfgeekogaaDoor
open Go.RowKit

/-! Plain: behind each other, unlike registers: their bits add up. -/
theorem ruleGo_apart : ∀ (rs prev : List (Int × List Int)), ruleGo prev rs = 0 → ∀ k, k < rs.length → (prev ++ rs.take k).any (fun s => s.1 == (rs.getD k (0, [])).1) = false
  | [], _, _, k, hk => absurd hk (by simp)
  | (x, g) :: rs, prev, h, k, hk => by
    rw [ruleGo_cons] at h
    by_cases h1 : okReg x = true
    · rw [if_pos h1] at h
      by_cases h2 : 12 < g.length
      · rw [if_pos h2] at h; exact absurd h (by decide)
      · rw [if_neg h2] at h
        by_cases h3 : g.all okM = true
        · rw [if_pos h3] at h
          by_cases h4 : prev.any (fun s => s.1 == x) = true
          · rw [if_pos h4] at h; exact absurd h (by decide)
          · rw [if_neg h4] at h
            match k, hk with
            | 0, _ => rw [List.take_zero, List.append_nil]; exact Bool.eq_false_iff.2 h4
            | k + 1, hk =>
              have ih := ruleGo_apart rs (prev ++ [(x, g)]) h k (by simpa using hk)
              rw [List.append_assoc] at ih
              exact ih
        · rw [if_neg h3] at h; exact absurd h (by decide)
    · rw [if_neg h1] at h; exact absurd h (by decide)
theorem or_add : ∀ a, a < 256 → ∀ r, r < 8 → a.testBit r = false → a ||| 2 ^ r = a + 2 ^ r := by decide +kernel
theorem askN_bit (rs : List (Int × List Int)) (r : Nat) : (askN rs).testBit r = rs.any (fun s => s.1.toNat == r) := by
  have : ∀ (l : List (Int × List Int)) (m : Nat), (l.foldl (fun m r => m ||| 2 ^ r.1.toNat) m).testBit r = (m.testBit r || l.any (fun s => s.1.toNat == r)) := by
    intro l
    induction l with
    | nil => intro m; simp
    | cons s l ih =>
      intro m
      rw [List.foldl_cons, ih, Nat.testBit_or, Nat.testBit_two_pow, List.any_cons, Bool.or_assoc]
      congr 1
  unfold askN
  rw [this, Nat.zero_testBit, Bool.false_or]
theorem askN_step {rs : List (Int × List Int)} (h : rulesE rs = 0) (k : Nat) (hk : k < rs.length) (n : Nat) (hn : (rs.getD k (0, [])).1 = (n : Int)) : askN (rs.take (k + 1)) = askN (rs.take k) + 2 ^ n := by
  obtain ⟨h8, hr⟩ := rulesE_ok h
  have hg : ruleGo [] rs = 0 := by unfold rulesE at h; rw [if_neg (by omega)] at h; exact h
  have ha := ruleGo_apart rs [] hg k hk
  rw [List.nil_append, hn] at ha
  have hmem : rs.getD k (0, []) ∈ rs := by rw [List.getD_eq_getElem?_getD, List.getElem?_eq_getElem hk]; exact List.getElem_mem hk
  have hreg := okReg_yes (hr _ hmem).1
  rw [hn] at hreg
  have hs : askN (rs.take (k + 1)) = askN (rs.take k) ||| 2 ^ n := by
    rw [take_snoc rs (0, []) k hk, askN_snoc, hn, Int.toNat_natCast]
  have hlt : askN (rs.take k) < 256 := askN_lt (fun r hr2 => (hr r (List.mem_of_mem_take hr2)).1)
  rw [hs]
  refine or_add _ hlt n (by omega) ?_
  rw [askN_bit, List.any_eq_false]
  rw [List.any_eq_false] at ha
  intro s hsm
  have h1 := ha s hsm
  have h2 := okReg_yes (hr s (List.mem_of_mem_take hsm)).1
  simp only [beq_iff_eq] at h1 ⊢
  omega


theorem any_snoc {g : List Int} {pr : Int → Bool} (q : Nat) (h : q < g.length) : (g.take (q + 1)).any pr = ((g.take q).any pr || pr (g.getD q 0)) := by
  rw [take_snoc g 0 q h, List.any_append, List.any_cons, List.any_nil, Bool.or_false]

set_option maxHeartbeats 2000000 in
theorem rFits_any (A : Option Addr) (c : Nat) (rs : List (Int × List Int)) (x0 x1 x2 x3 x4 x5 x6 x7 : Int) (w : World) (hA : RulesAt w A rs) (hok : rulesE rs = 0) :
    Calls Tryd.prog 67 #[.slice A rs.length c, .agg #[.int .i64 x0, .int .i64 x1, .int .i64 x2, .int .i64 x3, .int .i64 x4, .int .i64 x5, .int .i64 x6, .int .i64 x7]] w fun e w' => e = .returned (.bool (fitM rs [x0, x1, x2, x3, x4, x5, x6, x7])) ∧ Below w.heap.size w w' := by
  have HA := Lib.hid hA
  have HK := Lib.hid hok
  have h8 := (rulesE_ok hok).1
  clear hA hok
  obtain ⟨B, hB⟩ : ∃ B, [x0, x1, x2, x3, x4, x5, x6, x7] = B := ⟨_, rfl⟩
  rw [hB]
  have HB := Lib.hid hB
  clear hB
  have HN := Lib.hid (Box.new w 38 #[.int .i64 x0, .int .i64 x1, .int .i64 x2, .int .i64 x3, .int .i64 x4, .int .i64 x5, .int .i64 x6, .int .i64 x7])
  go_enter Tryd.func67, Tryd.ntmps67
  go_wp2
  go_loopw [5, 6, 7] (fun i _ _ wr => ∃ k : Nat, k ≤ rs.length ∧ i = .int .i64 k ∧ Hid ((rs.take k).any (fitBad B) = false) ∧ Below w.heap.size w wr ∧ Hid (Box wr w.heap.size 38 #[.int .i64 x0, .int .i64 x1, .int .i64 x2, .int .i64 x3, .int .i64 x4, .int .i64 x5, .int .i64 x6, .int .i64 x7])) (fun i _ _ _ => rs.length - (intOf i).toNat)
  case atStart => exact ⟨0, Nat.zero_le _, rfl, Lib.hid rfl, (by repeat (first | (with_reducible exact grow_refl _) | (with_reducible assumption) | (with_reducible refine grow_alloc ?_ _) | (with_reducible refine grow_set ?_ (by first | exact Nat.le_refl _ | (simp; done) | (simp; omega) | omega) _) | (with_reducible refine grow_drewN ?_ _) | (with_reducible refine grow_drew ?_) | (with_reducible refine grow_step ?_ (by assumption)) | (with_reducible refine grow_base ?_ (by assumption)))), HN⟩
  case round =>
    obtain ⟨k, hk, rfl, HF, hb, BB⟩ := hrel
    by_cases hlt : k < rs.length
    · have HA2 := Lib.hid (HA.out.below hb)
      obtain ⟨b, off, GA, gc, rfl, hblt, h1, h2, hI⟩ := HA2.out k hlt
      have hmem : rs.getD k (0, []) ∈ rs := by rw [List.getD_eq_getElem?_getD, List.getElem?_eq_getElem hlt]; exact List.getElem_mem hlt
      obtain ⟨hr1, hr2, _⟩ := (rulesE_ok HK.out).2 _ hmem
      have hreg := okReg_yes hr1
      obtain ⟨⟨x, g⟩, hxe⟩ : ∃ x, rs.getD k (0, []) = x := ⟨_, rfl⟩
      rw [hxe] at h1 h2 hI hreg hr2
      simp only at h1 h2 hI hreg hr2
      obtain ⟨n, rfl⟩ : ∃ n : Nat, x = (n : Int) := ⟨x.toNat, by omega⟩
      have HX := Lib.hid hxe
      have HI := Lib.hid hI
      obtain ⟨v, hv⟩ : ∃ v, B.getD n 0 = v := ⟨_, rfl⟩
      have HV := Lib.hid hv
      have hbad : fitBad B ((n : Int), g) = !(g.any (fun y => v == y)) := by unfold fitBad; simp only [Int.toNat_natCast]; rw [hv]
      have HBad := Lib.hid hbad
      clear hxe hI hr1 hmem hv hbad
      have gn1 : (n : Int) < 8 := by omega
      go_wp2_with fail
      go_loopw [6, 7] (fun t j wr2 => ∃ (q : Nat) (V : Bool), q ≤ g.length ∧ j = .int .i64 q ∧ t = .bool V ∧ Hid (V = (g.take q).any (fun y => v == y)) ∧ Below wr.heap.size wr wr2) (fun _ j _ => g.length - (intOf j).toNat)
      case atStart => exact ⟨0, false, Nat.zero_le _, rfl, rfl, Lib.hid rfl, (by repeat (first | (with_reducible exact grow_refl _) | (with_reducible assumption) | (with_reducible refine grow_alloc ?_ _) | (with_reducible refine grow_set ?_ (by first | exact Nat.le_refl _ | (simp; done) | (simp; omega) | omega) _) | (with_reducible refine grow_drewN ?_ _) | (with_reducible refine grow_drew ?_) | (with_reducible refine grow_step ?_ (by assumption)) | (with_reducible refine grow_base ?_ (by assumption))))⟩
      case round =>
        obtain ⟨q, V, hq, rfl, rfl, HQ, hb2⟩ := hrel
        have BB2 := BB.out.below hb2
        have hx := BB2.at_ (xs := [x0, x1, x2, x3, x4, x5, x6, x7]) n (by omega : n < 8)
        rw [HB.out, HV.out] at hx
        obtain ⟨b4, off4, GA4, gc4, e4, _, o1, o2, oI⟩ := (HA2.out.below hb2) k hlt
        injection e4 with e4; injection e4 with r1 r2; subst r1; subst r2
        rw [HX.out] at o1 o2 oI
        simp only at o1 o2 oI
        clear h1 h2
        by_cases hlt2 : q < g.length
        · obtain ⟨b5, off5, rfl, _, hc⟩ := oI q hlt2
          obtain ⟨y, hye⟩ : ∃ y, g.getD q 0 = y := ⟨_, rfl⟩
          rw [hye] at hc
          have HS : Hid ((g.take (q + 1)).any (fun y => v == y) = (V || v == y)) := Lib.hid (by rw [any_snoc q hlt2, ← HQ.out, hye])
          clear hye oI
          cases V
          · by_cases hvy : y = v
            · have t : (y == v) = true := by simp [hvy]
              have HS2 : Hid (true = (g.take (q + 1)).any (fun y => v == y)) := Lib.hid (by rw [HS.out, hvy]; simp)
              clear hvy HS
              go_wp2_with fail
              go_quiet (fail)
              go_wp2_with fail
              go_roundw
              case rel => exact ⟨q + 1, true, by omega, by go_num, rfl, HS2, grow_drewN hb2 _⟩
              case measure => simp [intOf]; omega
            · have t : (y == v) = false := by simp [hvy]
              have HS2 : Hid (false = (g.take (q + 1)).any (fun y => v == y)) := Lib.hid (by rw [HS.out, show (v == y) = false from by simp; exact fun h => hvy h.symm]; rfl)
              clear hvy HS
              go_wp2_with fail
              go_quiet (fail)
              go_wp2_with fail
              go_roundw
              case rel => exact ⟨q + 1, false, by omega, by go_num, rfl, HS2, grow_drewN hb2 _⟩
              case measure => simp [intOf]; omega
          · have HS2 : Hid (true = (g.take (q + 1)).any (fun y => v == y)) := Lib.hid (by rw [HS.out]; rfl)
            clear HS
            go_wp2_with fail
            go_quiet (fail)
            go_wp2_with fail
            go_roundw
            case rel => exact ⟨q + 1, true, by omega, by go_num, rfl, HS2, grow_drewN hb2 _⟩
            case measure => simp [intOf]; omega
        · have HQ2 : Hid (V = g.any (fun y => v == y)) := Lib.hid (by have h := HQ.out; rwa [List.take_of_length_le (by omega)] at h)
          clear oI hx
          cases V
          · have HR : Hid (fitM rs B = false) := Lib.hid (by
              unfold fitM
              rw [anyR_at (rs := rs) (pr := fitBad B) k hlt (by rw [HX.out, HBad.out, ← HQ2.out]; rfl)]; rfl)
            go_wp2_with fail
            go_ret
            exact ⟨by rw [HR.out]; rfl, (by repeat (first | (with_reducible exact grow_refl _) | (with_reducible assumption) | (with_reducible refine grow_alloc ?_ _) | (with_reducible refine grow_set ?_ (by first | exact Nat.le_refl _ | (simp; done) | (simp; omega) | omega) _) | (with_reducible refine grow_drewN ?_ _) | (with_reducible refine grow_drew ?_) | (with_reducible refine grow_step ?_ (by assumption)) | (with_reducible refine grow_base ?_ (by assumption))))⟩
          · have HF2 := Lib.hid (anyR_step (rs := rs) (pr := fitBad B) k hlt HF.out (by rw [HX.out, HBad.out, ← HQ2.out]; rfl))
            go_wp2_with fail
            go_roundw
            case rel => exact ⟨k + 1, by omega, by go_num, HF2, (by repeat (first | (with_reducible exact grow_refl _) | (with_reducible assumption) | (with_reducible refine grow_alloc ?_ _) | (with_reducible refine grow_set ?_ (by first | exact Nat.le_refl _ | (simp; done) | (simp; omega) | omega) _) | (with_reducible refine grow_drewN ?_ _) | (with_reducible refine grow_drew ?_) | (with_reducible refine grow_step ?_ (by assumption)) | (with_reducible refine grow_base ?_ (by assumption)))), Lib.hid BB2⟩
            case measure => simp [intOf]; omega
    · have HR : Hid (fitM rs B = true) := Lib.hid (by unfold fitM; have h := HF.out; rw [List.take_of_length_le (by omega)] at h; rw [h]; rfl)
      go_wp2
      go_ret
      exact ⟨by rw [HR.out]; rfl, (by repeat (first | (with_reducible exact grow_refl _) | (with_reducible assumption) | (with_reducible refine grow_alloc ?_ _) | (with_reducible refine grow_set ?_ (by first | exact Nat.le_refl _ | (simp; done) | (simp; omega) | omega) _) | (with_reducible refine grow_drewN ?_ _) | (with_reducible refine grow_drew ?_) | (with_reducible refine grow_step ?_ (by assumption)) | (with_reducible refine grow_base ?_ (by assumption))))⟩

end Go.Proofs.YtdedllfgeekogaaDoor
