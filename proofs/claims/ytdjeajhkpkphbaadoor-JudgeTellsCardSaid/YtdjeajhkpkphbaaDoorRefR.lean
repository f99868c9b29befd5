/- The walks of the reference: rules. -/
import Derived.Test.YtdjeajhkpkphbaaDoorRows
import Derived.Test.YtdjeajhkpkphbaaDoorNum
import Derived.Test.YtdjeajhkpkphbaaDoorBase
import Derived.Test.YtdjeajhkpkphbaaDoorMeas
import Derived.Test.YtdjeajhkpkphbaaDoorBank
import Derived.Test.YtdjeajhkpkphbaaDoorRule
import Derived.Test.YtdjeajhkpkphbaaDoorRule2
import Derived.Test.YtdjeajhkpkphbaaDoorRefA
import Derived.Test.YtdjeajhkpkphbaaDoorRefB
import Derived.WalkKit
import Derived.Lib.Hide
import Derived.Deep.QuietTactic
import Derived.BigQuiet
namespace Go.Proofs.YtdjeajhkpkphbaaDoor
open Go.RowKit

set_option maxHeartbeats 2000000 in
theorem rRules_any (A : Option Addr) (c : Nat) (rs : List (Int × List Int)) (w : World) (hA : RulesAt w A rs) (hbig : rs.length ≤ 9223372036854775806) (hg : ∀ r ∈ rs, r.2.length ≤ 9223372036854775806) :
    Calls Tryd.prog 41 #[.slice A rs.length c] w fun e w' => e = .returned (.int .i64 (rulesE rs)) ∧ Below w.heap.size w w' := by
  by_cases hl : 8 < rs.length
  · have HE : Hid (rulesE rs = 4) := Lib.hid (by unfold rulesE; rw [if_pos hl])
    go_enter Tryd.func41, Tryd.ntmps41
    go_wp2
    go_ret
    exact ⟨by rw [HE.out]; rfl, (by repeat (first | (with_reducible exact grow_refl _) | (with_reducible assumption) | (with_reducible refine grow_alloc ?_ _) | (with_reducible refine grow_set ?_ (by first | exact Nat.le_refl _ | (simp; done) | (simp; omega) | omega) _) | (with_reducible refine grow_drewN ?_ _) | (with_reducible refine grow_drew ?_) | (with_reducible refine grow_step ?_ (by assumption)) | (with_reducible refine grow_base ?_ (by assumption))))⟩
  · have HE : Hid (rulesE rs = ruleGo [] rs) := Lib.hid (by unfold rulesE; rw [if_neg hl])
    have HA := Lib.hid hA
    have HG := Lib.hid hg
    clear hA hbig hg
    go_enter Tryd.func41, Tryd.ntmps41
    go_wp2
    go_loopw [3, 4, 5, 6] (fun i _ _ _ wr => ∃ k : Nat, k ≤ rs.length ∧ i = .int .i64 k ∧ Hid (ruleGo [] rs = ruleGo (rs.take k) (rs.drop k)) ∧ Below w.heap.size w wr) (fun i _ _ _ _ => rs.length - (intOf i).toNat)
    case atStart => exact ⟨0, Nat.zero_le _, rfl, Lib.hid rfl, (by repeat (first | (with_reducible exact grow_refl _) | (with_reducible assumption) | (with_reducible refine grow_alloc ?_ _) | (with_reducible refine grow_set ?_ (by first | exact Nat.le_refl _ | (simp; done) | (simp; omega) | omega) _) | (with_reducible refine grow_drewN ?_ _) | (with_reducible refine grow_drew ?_) | (with_reducible refine grow_step ?_ (by assumption)) | (with_reducible refine grow_base ?_ (by assumption))))⟩
    case round =>
      obtain ⟨k, hk, rfl, HP, hb⟩ := hrel
      by_cases hlt : k < rs.length
      · have HA2 := Lib.hid (HA.out.below hb)
        obtain ⟨b, off, GA, gc, rfl, hblt, h1, h2, hI⟩ := HA2.out k hlt
        have hd := drop_cons rs (0, []) k hlt
        have hs := take_snoc rs (0, []) k hlt
        obtain ⟨⟨x, g⟩, hxe⟩ : ∃ x, rs.getD k (0, []) = x := ⟨_, rfl⟩
        have hmem : (x, g) ∈ rs := by rw [← hxe, List.getD_eq_getElem?_getD, List.getElem?_eq_getElem hlt]; exact List.getElem_mem hlt
        have hgl := HG.out _ hmem
        rw [hxe] at h1 h2 hI hd hs
        simp only at h1 h2 hI hgl
        have HS : Hid (ruleGo [] rs = if okReg x then (if 12 < g.length then 4 else if g.all okM then (if (rs.take k).any (fun s => s.1 == x) then 7 else ruleGo (rs.take (k + 1)) (rs.drop (k + 1))) else 1) else 1) :=
          Lib.hid (by rw [HP.out, hd, ruleGo_cons, hs])
        have HI := Lib.hid hI
        have HX := Lib.hid hxe
        clear HP hd hs hxe hmem hI
        by_cases hx1 : x < 0
        · have HF : Hid (ruleGo [] rs = 1) := Lib.hid (by rw [HS.out, show okReg x = false from decide_eq_false (by omega)]; rfl)
          go_wp2_with fail
          go_ret
          exact ⟨by rw [HE.out, HF.out]; rfl, (by repeat (first | (with_reducible exact grow_refl _) | (with_reducible assumption) | (with_reducible refine grow_alloc ?_ _) | (with_reducible refine grow_set ?_ (by first | exact Nat.le_refl _ | (simp; done) | (simp; omega) | omega) _) | (with_reducible refine grow_drewN ?_ _) | (with_reducible refine grow_drew ?_) | (with_reducible refine grow_step ?_ (by assumption)) | (with_reducible refine grow_base ?_ (by assumption))))⟩
        · by_cases hx2 : 7 < x
          · have HF : Hid (ruleGo [] rs = 1) := Lib.hid (by rw [HS.out, show okReg x = false from decide_eq_false (by omega)]; rfl)
            go_wp2_with fail
            go_ret
            exact ⟨by rw [HE.out, HF.out]; rfl, (by repeat (first | (with_reducible exact grow_refl _) | (with_reducible assumption) | (with_reducible refine grow_alloc ?_ _) | (with_reducible refine grow_set ?_ (by first | exact Nat.le_refl _ | (simp; done) | (simp; omega) | omega) _) | (with_reducible refine grow_drewN ?_ _) | (with_reducible refine grow_drew ?_) | (with_reducible refine grow_step ?_ (by assumption)) | (with_reducible refine grow_base ?_ (by assumption))))⟩
          · have hox : okReg x = true := decide_eq_true (by omega)
            by_cases hgl2 : 12 < g.length
            · have HF : Hid (ruleGo [] rs = 4) := Lib.hid (by rw [HS.out, hox, if_pos rfl, if_pos hgl2])
              clear hox
              go_wp2_with fail
              go_ret
              exact ⟨by rw [HE.out, HF.out]; rfl, (by repeat (first | (with_reducible exact grow_refl _) | (with_reducible assumption) | (with_reducible refine grow_alloc ?_ _) | (with_reducible refine grow_set ?_ (by first | exact Nat.le_refl _ | (simp; done) | (simp; omega) | omega) _) | (with_reducible refine grow_drewN ?_ _) | (with_reducible refine grow_drew ?_) | (with_reducible refine grow_step ?_ (by assumption)) | (with_reducible refine grow_base ?_ (by assumption))))⟩
            · have HS2 : Hid (ruleGo [] rs = if g.all okM then (if (rs.take k).any (fun s => s.1 == x) then 7 else ruleGo (rs.take (k + 1)) (rs.drop (k + 1))) else 1) := Lib.hid (by rw [HS.out, hox, if_pos rfl, if_neg hgl2])
              clear hox HS
              go_wp2_with fail
              go_loop [4, 5] (fun j _ => ∃ q : Nat, q ≤ g.length ∧ j = .int .i64 q ∧ Hid ((g.take q).all okM = true)) (fun j _ => g.length - (intOf j).toNat)
              case atStart => exact ⟨0, Nat.zero_le _, rfl, Lib.hid rfl⟩
              case round =>
                obtain ⟨q, hq, rfl, HQ⟩ := hrel
                by_cases hlt2 : q < g.length
                · obtain ⟨b2, off2, rfl, hb2lt, hc⟩ := HI.out q hlt2
                  obtain ⟨y, hye⟩ : ∃ y, g.getD q 0 = y := ⟨_, rfl⟩
                  rw [hye] at hc
                  have HY := Lib.hid hye
                  clear hye
                  cases hm : okM y
                  · have HF : Hid (ruleGo [] rs = 1) := Lib.hid (by rw [HS2.out, all_not g q hlt2 (by rw [HY.out]; exact hm)]; rfl)
                    go_wp2_with (go_at_call 18; refine (rIs_any _ _).mono ?_; rintro e w' ⟨rfl, rfl⟩)
                    go_ret
                    exact ⟨by rw [HE.out, HF.out]; rfl, (by repeat (first | (with_reducible exact grow_refl _) | (with_reducible assumption) | (with_reducible refine grow_alloc ?_ _) | (with_reducible refine grow_set ?_ (by first | exact Nat.le_refl _ | (simp; done) | (simp; omega) | omega) _) | (with_reducible refine grow_drewN ?_ _) | (with_reducible refine grow_drew ?_) | (with_reducible refine grow_step ?_ (by assumption)) | (with_reducible refine grow_base ?_ (by assumption))))⟩
                  · have HQ2 := Lib.hid (all_step g q hlt2 HQ.out (by rw [HY.out]; exact hm))
                    go_wp2_with (go_at_call 18; refine (rIs_any _ _).mono ?_; rintro e w' ⟨rfl, rfl⟩)
                    go_round
                    case rel => exact ⟨q + 1, by omega, by go_num, HQ2⟩
                    case measure => simp [intOf]; omega
                · have hall : g.all okM = true := by have := HQ.out; rwa [List.take_of_length_le (by omega)] at this
                  have HS3 : Hid (ruleGo [] rs = if (rs.take k).any (fun s => s.1 == x) then 7 else ruleGo (rs.take (k + 1)) (rs.drop (k + 1))) := Lib.hid (by rw [HS2.out, hall, if_pos rfl])
                  clear hall HS2 HQ
                  go_wp2_with fail
                  go_loopw [6] (fun j wr2 => ∃ q : Nat, q ≤ k ∧ j = .int .i64 q ∧ Hid ((rs.take q).any (fun s => s.1 == x) = false) ∧ Below wr.heap.size wr wr2) (fun j _ => k - (intOf j).toNat)
                  case atStart => exact ⟨0, Nat.zero_le _, rfl, Lib.hid rfl, (by repeat (first | (with_reducible exact grow_refl _) | (with_reducible assumption) | (with_reducible refine grow_alloc ?_ _) | (with_reducible refine grow_set ?_ (by first | exact Nat.le_refl _ | (simp; done) | (simp; omega) | omega) _) | (with_reducible refine grow_drewN ?_ _) | (with_reducible refine grow_drew ?_) | (with_reducible refine grow_step ?_ (by assumption)) | (with_reducible refine grow_base ?_ (by assumption))))⟩
                  case round =>
                    obtain ⟨q2, hq2, rfl, HN, hb2⟩ := hrel
                    by_cases hlt3 : q2 < k
                    · obtain ⟨b3, off3, GA3, gc3, e3, _, p1, p2, _⟩ := (HA2.out.below hb2) q2 (by omega)
                      injection e3 with e3; injection e3 with r1 r2; subst r1; subst r2
                      obtain ⟨b4, off4, GA4, gc4, e4, _, o1, o2, _⟩ := (HA2.out.below hb2) k (by omega)
                      injection e4 with e4; injection e4 with r1 r2; subst r1; subst r2
                      rw [HX.out] at o1
                      simp only at o1
                      clear p2 o2 h1 h2
                      obtain ⟨y, hye⟩ : ∃ y, (rs.getD q2 (0, [])).1 = y := ⟨_, rfl⟩
                      rw [hye] at p1
                      have HY := Lib.hid hye
                      clear hye
                      by_cases hyx : y = x
                      · have t : (y == x) = true := by simp [hyx]
                        have HF : Hid (ruleGo [] rs = 7) := Lib.hid (by
                          have h : (rs.take k).any (fun s => s.1 == x) = true := anyR_at (rs := rs.take k) q2 (by rw [List.length_take]; omega) (by
                            rw [List.getD_eq_getElem?_getD, List.getElem?_take_of_lt hlt3, ← List.getD_eq_getElem?_getD, HY.out]; exact t)
                          rw [HS3.out, h, if_pos rfl])
                        clear hyx
                        go_wp2_with fail
                        go_quiet (fail)
                        go_wp2_with fail
                        go_ret
                        exact ⟨by rw [HE.out, HF.out]; rfl, (by repeat (first | (with_reducible exact grow_refl _) | (with_reducible assumption) | (with_reducible refine grow_alloc ?_ _) | (with_reducible refine grow_set ?_ (by first | exact Nat.le_refl _ | (simp; done) | (simp; omega) | omega) _) | (with_reducible refine grow_drewN ?_ _) | (with_reducible refine grow_drew ?_) | (with_reducible refine grow_step ?_ (by assumption)) | (with_reducible refine grow_base ?_ (by assumption))))⟩
                      · have t : (y == x) = false := by simp [hyx]
                        have HN2 := Lib.hid (anyR_step (rs := rs) q2 (by omega) HN.out (by rw [HY.out]; exact t))
                        clear hyx
                        go_wp2_with fail
                        go_quiet (fail)
                        go_wp2_with fail
                        go_roundw
                        case rel => exact ⟨q2 + 1, by omega, by go_num, HN2, grow_drewN hb2 _⟩
                        case measure => simp [intOf]; omega
                    · obtain rfl : q2 = k := by omega
                      have HF : Hid (ruleGo [] rs = ruleGo (rs.take (q2 + 1)) (rs.drop (q2 + 1))) := Lib.hid (by rw [HS3.out, HN.out]; rfl)
                      go_wp2_with fail
                      go_roundw
                      case rel => exact ⟨q2 + 1, by omega, by go_num, HF, (by repeat (first | (with_reducible exact grow_refl _) | (with_reducible assumption) | (with_reducible refine grow_alloc ?_ _) | (with_reducible refine grow_set ?_ (by first | exact Nat.le_refl _ | (simp; done) | (simp; omega) | omega) _) | (with_reducible refine grow_drewN ?_ _) | (with_reducible refine grow_drew ?_) | (with_reducible refine grow_step ?_ (by assumption)) | (with_reducible refine grow_base ?_ (by assumption))))⟩
                      case measure => simp [intOf]; omega
      · have HF : Hid (ruleGo [] rs = 0) := Lib.hid (by rw [HP.out, List.drop_eq_nil_of_le (by omega)]; rfl)
        go_wp2
        go_ret
        exact ⟨by rw [HE.out, HF.out]; rfl, (by repeat (first | (with_reducible exact grow_refl _) | (with_reducible assumption) | (with_reducible refine grow_alloc ?_ _) | (with_reducible refine grow_set ?_ (by first | exact Nat.le_refl _ | (simp; done) | (simp; omega) | omega) _) | (with_reducible refine grow_drewN ?_ _) | (with_reducible refine grow_drew ?_) | (with_reducible refine grow_step ?_ (by assumption)) | (with_reducible refine grow_base ?_ (by assumption))))⟩

end Go.Proofs.YtdjeajhkpkphbaaDoor
