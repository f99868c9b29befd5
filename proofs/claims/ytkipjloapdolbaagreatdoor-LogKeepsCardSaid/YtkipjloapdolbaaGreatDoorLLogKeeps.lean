/- LogKeeps: what is safe is kept. -/
import Derived.Test.YtkipjloapdolbaaGreatDoorRows
import Derived.Test.YtkipjloapdolbaaGreatDoorOpen
import Derived.Test.YtkipjloapdolbaaGreatDoorOpStr
import Derived.Test.YtkipjloapdolbaaGreatDoorNum
import Derived.Test.YtkipjloapdolbaaGreatDoorBase
import Derived.Test.YtkipjloapdolbaaGreatDoorApp
import Derived.Test.YtkipjloapdolbaaGreatDoorFoot
import Derived.Test.YtkipjloapdolbaaGreatDoorImg
import Derived.Test.YtkipjloapdolbaaGreatDoorCntP
import Derived.Test.YtkipjloapdolbaaGreatDoorCntR
import Derived.Test.YtkipjloapdolbaaGreatDoorTold
import Derived.Test.YtkipjloapdolbaaGreatDoorTwin
import Derived.Test.YtkipjloapdolbaaGreatDoorAlike3
import Derived.Test.YtkipjloapdolbaaGreatDoorLogP
import Derived.Test.YtkipjloapdolbaaGreatDoorLogA
import Derived.Test.YtkipjloapdolbaaGreatDoorLogM
import Derived.Test.YtkipjloapdolbaaGreatDoorLogR
import Derived.Test.YtkipjloapdolbaaGreatDoorLogW
import Derived.Test.YtkipjloapdolbaaGreatDoorLogC
import Derived.Test.YtkipjloapdolbaaGreatDoorLogQ
import Derived.Test.YtkipjloapdolbaaGreatDoorLogO
import Derived.Test.YtkipjloapdolbaaGreatDoorLogD
import Derived.Test.YtkipjloapdolbaaGreatDoorLiftT
import Derived.Test.YtkipjloapdolbaaGreatDoorLiftV
import Derived.Test.YtkipjloapdolbaaGreatDoorReadL
import Derived.WalkKit
import Derived.WalkSpells
import Derived.Lib.Hide
import Derived.BigQuiet
import Derived.Deep.QuietTactic
import Derived.Deep.RegionHeld3
import Derived.Deep.CutBlock
import Derived.Deep.DeepCutAuto
namespace Go.Proofs.YtkipjloapdolbaaGreatDoor
open Go.ChangeShapes Go.WideShapes Go.ChangeAt Go.RowKit
set_option linter.unusedVariables false
set_option linter.unusedSimpArgs false
set_option maxRecDepth 100000

theorem infoPtrC : (Tryz.prog.info? 35).map (fun i => (i.zero, i.size, i.bytes)) = some (some (.pointer none), 1, 8) := by kernel_rfl
theorem infoInt_ : (Tryz.prog.info? 3).map (fun i => (i.zero, i.size, i.bytes)) = some (some (.int .i64 0), 1, 8) := by kernel_rfl
def world3 (w : World) : World := ((w.alloc (.cells #[.slice none 0 0] 38)).alloc (.cells #[.pointer (some ⟨w.heap.size, 0, none⟩)] 35)).alloc (.cells #[.int .i64 0] 3)
theorem world3_size (w : World) : (world3 w).heap.size = w.heap.size + 1 + 1 + 1 := by simp [world3]
theorem world3_below (w : World) : Below w.heap.size w (world3 w) := grow_alloc (grow_alloc (grow_alloc (grow_refl _) _) _) _
theorem DoneAt.start (w0 w : World) (T : Nat → Prop) (h0 : w0.heap.size ≤ w.heap.size) (hT : ∀ k, T k → w0.heap.size ≤ k ∧ k < w.heap.size) :
    DoneAt w0 (Since T w (world3 w)) (world3 w) (some ⟨w.heap.size + 1, 0, none⟩) 1 (some ⟨w.heap.size + 1 + 1, 0, none⟩) 1 [w.heap.size] [] (marksOf []) := by
  have hz := world3_size w
  have s0 : (w.alloc (.cells #[.slice none 0 0] 38)).heap.size = w.heap.size + 1 := by simp
  have s1 : ((w.alloc (.cells #[.slice none 0 0] 38)).alloc (.cells #[.pointer (some ⟨w.heap.size, 0, none⟩)] 35)).heap.size = w.heap.size + 1 + 1 := by simp
  have b1 : Box (world3 w) (w.heap.size + 1) 35 #[.pointer (some ⟨w.heap.size, 0, none⟩)] := by
    have h := Box.new (w.alloc (.cells #[.slice none 0 0] 38)) 35 #[.pointer (some ⟨w.heap.size, 0, none⟩)]
    rw [s0] at h
    exact h.alloc_ _
  have b2 : Box (world3 w) (w.heap.size + 1 + 1) 3 #[.int .i64 0] := by
    have h := Box.new ((w.alloc (.cells #[.slice none 0 0] 38)).alloc (.cells #[.pointer (some ⟨w.heap.size, 0, none⟩)] 35)) 3 #[.int .i64 0]
    rw [s1] at h
    exact h
  have n1 : ∀ k, At (some (⟨w.heap.size + 1, 0, none⟩ : Addr)) k → k = w.heap.size + 1 := fun k ⟨a, ha, hb⟩ => by injection ha with ha; subst ha; exact hb.symm
  have n2 : ∀ k, At (some (⟨w.heap.size + 1 + 1, 0, none⟩ : Addr)) k → k = w.heap.size + 1 + 1 := fun k ⟨a, ha, hb⟩ => by injection ha with ha; subst ha; exact hb.symm
  have fr : Free (Since T w (world3 w)) (some ⟨w.heap.size + 1, 0, none⟩) (some ⟨w.heap.size + 1 + 1, 0, none⟩) w.heap.size := ⟨Or.inr ⟨Nat.le_refl _, by omega⟩, fun h => by have := n1 _ h; omega, fun h => by have := n2 _ h; omega⟩
  refine ⟨rfl, ⟨rfl, Or.inr ⟨_, _, _, rfl, by omega, b1, by decide, by decide, rfl, rfl⟩⟩, ⟨rfl, Or.inr ⟨_, _, _, rfl, by omega, b2, by decide, by decide, rfl, rfl⟩⟩,
    fun k hk => Or.inr (by have := n1 k hk; omega), fun k hk => Or.inr (by have := n2 k hk; omega), fun k hk hk2 => by have := n1 k hk; have := n2 k hk2; omega, fun k hk => ?_, fun i hi => ?_⟩
  · rcases hk with hk | hk
    · have := hT k hk; omega
    · omega
  · obtain rfl : i = 0 := by simpa using hi
    exact ⟨w.heap.size, ((RC3.new w w.heap.size).below (grow_alloc (grow_refl _) _)).below (grow_alloc (grow_refl _) _), fr, fr⟩

set_option maxHeartbeats 16000000 in
theorem logKeeps_walk (w : World) (N : Option Addr) (ns : List ByteArray) (cn : Nat) (A : Option Addr) (l : List Int) (cl : Nat) (SA : Option Addr) (ss : List Int) (cs : Nat) (FA : Option Addr) (fs : List Int) (cf : Nat) (KA : Option Addr) (ks : List Int) (ck : Nat)
    (hN : StrsAt w N ns) (hnl : ns.length * 16 ≤ 140737488351232) (hnc : ns.length ≤ cn) (hns : ∀ i, i < ns.length → (ns.getD i ⟨#[]⟩).size ≤ 140737488351232)
    (hA : IntsAt w A l) (hi : ∀ x ∈ l, I64 x) (hl : l.length * 8 ≤ 140737488351232) (hS : IntsAt w SA ss) (hsi : ∀ x ∈ ss, I64 x) (hsl : ss.length * 8 ≤ 140737488351232)
    (hF : IntsAt w FA fs) (hfi : ∀ x ∈ fs, I64 x) (hfl : fs.length * 8 ≤ 140737488351232) (hK : IntsAt w KA ks) (hki : ∀ x ∈ ks, I64 x) (hkl : ks.length * 8 ≤ 140737488351232) (hsh : w.ShapedOpen Tryz.prog) (hd : TabTD w) :
    Calls Tryz.prog 3 #[.slice N ns.length cn, .slice A l.length cl, .slice SA ss.length cs, .slice FA fs.length cf, .slice KA ks.length ck] w fun e w' => e = .returned (.bool true) ∧ Below w.heap.size w w' := by
  have en := fun k w => err_neq k w
  have ee := fun k w => err_eql k w
  have gn := fun o k w => err_guard_neq o k w
  have ge := fun o k w => err_guard_eql o k w
  have HM : Hid (MaxT w) := Lib.hid (maxLen_cell hsh)
  have HT := Lib.hid hd.1
  have HD := Lib.hid hd.2
  have HN := Lib.hid hN
  have HNS := Lib.hid hns
  have HA := Lib.hid hA
  have HS := Lib.hid hS
  have HF := Lib.hid hF
  have HFI := Lib.hid hfi
  have HK := Lib.hid hK
  have HKI := Lib.hid hki
  clear hsh hd hN hns hA hi hS hsi hF hfi hK hki
  go_enter Tryz.func3, Tryz.ntmps3
  go_wp2_with fail
  refine (logNew_at w w (Below.refl _ _)).mono ?_
  rintro e w1 ⟨g0, rfl, hL, hb1⟩
  have HL := Lib.hid hL
  clear hL hb1
  go_wp2_with fail
  refine (lgRaise_at osB 5 HL.out (by decide) (by omega) HT.out HM.out).mono ?_
  rintro e w2 ⟨rfl, hL, _⟩
  rw [show (raiseOut lg0 osB 5).2 = k1 from rfl] at hL
  rw [k1_is]
  have HL := Lib.hid hL
  clear hL
  go_wp2_with fail
  refine (lgSync_at HL.out).mono ?_
  rintro e w3 ⟨rfl, hL, _⟩
  rw [show (syncOut k1).2 = k2 from rfl] at hL
  rw [k2_is]
  have HL := Lib.hid hL
  clear hL
  go_wp2_with fail
  refine (lgRaise_at osB 9 HL.out (by decide) (by omega) HT.out HM.out).mono ?_
  rintro e w4 ⟨rfl, hL, _⟩
  rw [show (raiseOut k2 osB 9).2 = k3 from rfl] at hL
  rw [k3_is]
  have HL := Lib.hid hL
  clear hL
  go_wp2_with fail
  refine (lgCrash_at 0 ⟨by decide, by decide⟩ HL.out HM.out).mono ?_
  rintro e w5 ⟨rfl, hL, _⟩
  have HL := Lib.hid hL
  clear hL
  go_wp2_with fail
  refine (lgLeast_at osB HL.out (by decide)).mono ?_
  rintro e w6 ⟨rfl, hb6⟩
  rw [osOk, if_pos rfl, if_pos rfl, k4_is.1, raised5, osC_of]
  have HL := Lib.hid (HL.out.below hb6)
  have HBY := lgBytes_at HL.out
  have HSF := lgSafe_at HL.out
  rw [k4_is.1, k4_is.2.1, bytesB_len] at HBY
  rw [k4_is.2.2] at HSF
  obtain ⟨Z, hZ⟩ : ∃ Z : Nat, flatN [(osB, 5)] = Z := ⟨_, rfl⟩
  rw [hZ] at HBY HSF
  have HBY := Lib.hid HBY
  have HSF := Lib.hid HSF
  clear hZ hb6
  go_wp2_with fail
  refine HBY.out.mono ?_
  rintro e w' ⟨rfl, rfl⟩
  go_wp2_with fail
  refine HSF.out.mono ?_
  rintro e w' ⟨rfl, rfl⟩
  have hw6 : Below w.heap.size w w6 := HL.out.bel
  clear HBY HSF HL
  go_wp2_with fail
  refine (logNew_at w w6 hw6).mono ?_
  rintro e w7 ⟨g, rfl, hL, hb7⟩
  have hb3 := world3_below w7
  have HL := Lib.hid (hL.grow (below_but hb3 _) (fun k hk => hk.2))
  have hz6 := hw6.size
  have hz7 := hb7.size
  have HX := Lib.hid (DoneAt.start w w7 (fun k => k < w6.heap.size ∧ w.heap.size ≤ k) (by omega) (fun k hk => by omega))
  clear hL hb7 hb3 hz6 hz7
  go_wp2_with fail
  go_loopw [20, 21, 22, 23, 24, 25, 26, 27, 28, 29, 30, 31, 32, 33, 34, 35, 36, 37, 38, 39, 40] (fun dn mk at_ rd _ _ _ _ _ _ _ _ _ _ _ _ _ _ _ _ _ wr => ∃ (T : Nat → Prop) (ps : List Nat) (rs : List Rec) (A1 : Option Addr) (c1 : Nat) (A2 : Option Addr) (c2 : Nat) (ai ri : Nat) (L : Lg), dn = .slice A1 (rs.length + 1) c1 ∧ mk = .slice A2 (rs.length + 1) c2 ∧ at_ = .int .i64 ai ∧ rd = .int .i64 ri ∧ ri ≤ 4 ∧ ai ≤ l.length ∧ Hid (L.recs = rs) ∧ Hid (LogAt T w wr g 31 L) ∧ Hid (DoneAt w T wr A1 c1 A2 c2 ps rs (marksOf rs))) (fun _ _ _ rd _ _ _ _ _ _ _ _ _ _ _ _ _ _ _ _ _ _ => 4 - (intOf rd).toNat)
  case atStart => exact ⟨_, _, [], _, 1, _, 1, 0, 0, lg0, rfl, rfl, rfl, rfl, by omega, by omega, Lib.hid rfl, Lib.hid (HL.out.mono (by omega)), HX⟩
  case round =>
    clear HL HX
    obtain ⟨T, ps, rs, A1, c1, A2, c2, ai, ri, L, rfl, rfl, rfl, rfl, hri, hai, HRS, HL, HX⟩ := hrel
    obtain ⟨wa, hwa⟩ : ∃ wa, wa = wr := ⟨_, rfl⟩
    subst hwa
    by_cases c1' : ri ≤ fs.length
    rotate_left
    · have g1 : ¬ (ri : Int) ≤ (fs.length : Int) := by omega
      go_wp2_with fail
      go_ret
      exact ⟨rfl, HL.out.bel⟩
    have g1 : (ri : Int) ≤ (fs.length : Int) := by omega
    by_cases c2' : ri < 4
    rotate_left
    · have g2 : ¬ (ri : Int) < 4 := by omega
      go_wp2_with fail
      go_ret
      exact ⟨rfl, HL.out.bel⟩
    have g2 : (ri : Int) < 4 := by omega
    go_upto_if 112 with fail
    go_cut [] (fun wx => ∃ L' : Lg, Hid (L'.recs = rs) ∧ Hid (LogAt T w wx g 31 L') ∧ Hid (LogOwn T w wa wx))
    case first =>
      as_aux_lemma =>
        by_cases c3 : ri < fs.length
        · have g3 : (ri : Int) < (fs.length : Int) := by omega
          obtain ⟨b0, off, rfl, hlt0, hc0⟩ := HF.out ri c3
          have hy0 := HFI.out (fs.getD ri 0) (by rw [List.getD_eq_getElem?_getD, List.getElem?_eq_getElem c3]; exact List.getElem_mem _)
          obtain ⟨y, hy⟩ : ∃ y, fs.getD ri 0 = y := ⟨_, rfl⟩
          rw [hy] at hc0 hy0
          have hc := (HL.out.bel.cell (p := ⟨b0, off + ri, none⟩) hlt0).trans hc0
          have lb0 := Nat.lt_of_lt_of_le hlt0 HL.out.bel.size
          have HY := Lib.hid hy0
          clear hy c3 hy0
          go_wp2_with fail
          refine (lgFail_at y HY.out HL.out).mono ?_
          rintro e w3 ⟨rfl, hL3, hk3⟩
          go_wp2_with fail
          go_meet
          exact ⟨failOut L y, HRS, Lib.hid hL3, Lib.hid hk3⟩
        · have g3 : ¬ (ri : Int) < (fs.length : Int) := by omega
          clear c3
          go_wp2_with fail
          go_meet
          exact ⟨L, HRS, HL, Lib.hid (LogOwn.refl _ _ _)⟩
    case rest =>
    obtain ⟨L1, HRS1, HL1, HO1⟩ := hcut
    obtain ⟨wb, hwb⟩ : ∃ wb, wb = wc := ⟨_, rfl⟩
    subst hwb
    have HX1 := Lib.hid (HX.out.own_ HO1.out)
    have hri4 : ri ≤ 3 := by omega
    clear HX HL HRS HO1 g1 g2 c1' c2'
    go_upto_block 2 with fail
    go_cut [20, 21, 22, 24, 25, 26, 27, 28, 29, 30, 31, 32, 33] (fun dn mk at_ _ _ _ _ _ _ _ _ _ _ wx => ∃ (T : Nat → Prop) (ps : List Nat) (rs : List Rec) (A1 : Option Addr) (c1 : Nat) (A2 : Option Addr) (c2 : Nat) (ai : Nat) (L : Lg), dn = .slice A1 (rs.length + 1) c1 ∧ mk = .slice A2 (rs.length + 1) c2 ∧ at_ = .int .i64 ai ∧ ai ≤ l.length ∧ Hid (L.recs = rs) ∧ Hid (LogAt T w wx g 500 L) ∧ Hid (DoneAt w T wx A1 c1 A2 c2 ps rs (marksOf rs)))
    case first =>
      as_aux_lemma =>
        go_wp2_with fail
        go_loopw [20, 21, 22, 24, 25, 26, 27, 28, 29, 30, 31, 32, 33] (fun dn mk at_ kk _ _ _ _ _ _ _ _ _ wr => ∃ (T : Nat → Prop) (ps : List Nat) (rs : List Rec) (A1 : Option Addr) (c1 : Nat) (A2 : Option Addr) (c2 : Nat) (ai ki : Nat) (L : Lg), dn = .slice A1 (rs.length + 1) c1 ∧ mk = .slice A2 (rs.length + 1) c2 ∧ at_ = .int .i64 ai ∧ kk = .int .i64 ki ∧ ki ≤ 12 ∧ ai ≤ l.length ∧ Hid (L.recs = rs) ∧ Hid (LogAt T w wr g (31 + 31 * ki) L) ∧ Hid (DoneAt w T wr A1 c1 A2 c2 ps rs (marksOf rs))) (fun _ _ _ kk _ _ _ _ _ _ _ _ _ _ => 12 - (intOf kk).toNat)
        case atStart => exact ⟨T, ps, rs, A1, c1, A2, c2, ai, 0, L1, rfl, rfl, rfl, rfl, by omega, hai, HRS1, Lib.hid (HL1.out.mono (by omega)), HX1⟩
        case round =>
          clear HRS1 HL1 HX1 hai
          obtain ⟨T, ps, rs, A1, c1, A2, c2, ai, ki, L, rfl, rfl, rfl, rfl, hki, hai, HRS, HL, HX⟩ := hrel
          obtain ⟨wa, hwa⟩ : ∃ wa, wa = wr := ⟨_, rfl⟩
          subst hwa
          by_cases d1 : ki < 12
          rotate_left
          · have g1 : ¬ (ki : Int) < 12 := by omega
            go_wp2_with fail
            go_meet
            exact ⟨T, ps, rs, A1, c1, A2, c2, ai, L, rfl, rfl, rfl, hai, HRS, Lib.hid (HL.out.mono (by omega)), HX⟩
          have g1 : (ki : Int) < 12 := by omega
          by_cases d2 : ai < l.length
          rotate_left
          · have g2 : ¬ (ai : Int) < (l.length : Int) := by omega
            go_wp2_with fail
            go_meet
            exact ⟨T, ps, rs, A1, c1, A2, c2, ai, L, rfl, rfl, rfl, hai, HRS, Lib.hid (HL.out.mono (by omega)), HX⟩
          have g2 : (ai : Int) < (l.length : Int) := by omega
          by_cases d3 : ai < ns.length
          rotate_left
          · have g3 : ¬ (ai : Int) < (ns.length : Int) := by omega
            go_wp2_with fail
            go_meet
            exact ⟨T, ps, rs, A1, c1, A2, c2, ai, L, rfl, rfl, rfl, hai, HRS, Lib.hid (HL.out.mono (by omega)), HX⟩
          have g3 : (ai : Int) < (ns.length : Int) := by omega
          have HLB := HL.out.bel
          obtain ⟨bn, on, rfl, lbn, hcn⟩ := HN.out ai d3
          obtain ⟨bl, ol, rfl, lbl, hcl⟩ := HA.out ai d2
          have hz := HNS.out ai d3
          obtain ⟨nm, hnm⟩ : ∃ z, ns.getD ai ⟨#[]⟩ = z := ⟨_, rfl⟩
          obtain ⟨v, hv⟩ : ∃ z, l.getD ai 0 = z := ⟨_, rfl⟩
          rw [hnm] at hcn hz
          rw [hv] at hcl
          have HCN := Lib.hid hcn
          have HCL := Lib.hid hcl
          clear hnm hv hcn hcl
          go_upto_region 21 with fail
          go_cut [157] from 135 to 157 (fun t wx => t = .bool false ∧ ∃ L' : Lg, Hid (L'.recs = rs) ∧ Hid (LogAt T w wx g (31 + 31 * ki) L') ∧ Hid (LogOwn T w wa wx))
          case first =>
            as_aux_lemma =>
              by_cases e1 : ai < ss.length
              · have g4 : (ai : Int) < (ss.length : Int) := by omega
                obtain ⟨b0, off, rfl, hlt0, hc0⟩ := HS.out ai e1
                obtain ⟨y, hy⟩ : ∃ y, ss.getD ai 0 = y := ⟨_, rfl⟩
                rw [hy] at hc0
                have hc := (HLB.cell (p := ⟨b0, off + ai, none⟩) hlt0).trans hc0
                have lb0 := Nat.lt_of_lt_of_le hlt0 HLB.size
                have hcz := fun w' (hb : Below w.heap.size w w') => (hb.cell (p := ⟨b0, off + ai, none⟩) hlt0).trans hc0
                have HCZ := Lib.hid hcz
                clear hy e1 hcz hc0
                by_cases e2 : y = 1
                · subst e2
                  go_wp2_with fail
                  refine (lgSync_at HL.out).mono ?_
                  rintro e w3 ⟨rfl, hL3, hk3⟩
                  obtain ⟨s1, s2⟩ := sync_shape HL.out.ok
                  obtain ⟨E, hE⟩ : ∃ E, (syncOut L).1 = E := ⟨_, rfl⟩
                  rw [hE] at s2 ⊢
                  have HR3 : Hid ((syncOut L).2.recs = rs) := Lib.hid (s1.trans HRS.out)
                  have HL3 := Lib.hid hL3
                  have HK3 := Lib.hid hk3
                  clear hL3 hk3 hE s1 hc
                  by_cases e3 : E = 0
                  · have t6 : (E == 0) = true := by simp [e3]
                    have s3 := s2 e3
                    have HSF := lgSafe_at HL3.out
                    have HBY := lgBytes_at HL3.out
                    obtain ⟨Z, hZ⟩ : ∃ Z : Int, ((bytesB (syncOut L).2.recs (syncOut L).2.half).size : Int) = Z := ⟨_, rfl⟩
                    rw [hZ] at HBY s3
                    rw [s3] at HSF
                    have HSF := Lib.hid HSF
                    have HBY := Lib.hid HBY
                    clear s2 s3 hZ e3
                    go_wp2_with fail
                    refine HSF.out.mono ?_
                    rintro e w' ⟨rfl, rfl⟩
                    go_wp2_with fail
                    refine HBY.out.mono ?_
                    rintro e w' ⟨rfl, rfl⟩
                    go_wp2_with fail
                    go_meet
                    exact ⟨by simp, _, HR3, HL3, HK3⟩
                  · have t6 : (E == 0) = false := by simp [e3]
                    clear s2 e3
                    go_wp2_with fail
                    go_meet
                    exact ⟨by simp, _, HR3, HL3, HK3⟩
                · have t5 : (y == 1) = false := by simp [e2]
                  clear e2
                  go_wp2_with fail
                  go_meet
                  exact ⟨by simp, L, HRS, HL, Lib.hid (LogOwn.refl _ _ _)⟩
              · have g4 : ¬ (ai : Int) < (ss.length : Int) := by omega
                clear e1
                go_wp2_with fail
                go_meet
                exact ⟨by simp, L, HRS, HL, Lib.hid (LogOwn.refl _ _ _)⟩
          case rest =>
          obtain ⟨rfl, L2, HRS2, HL2, HO2⟩ := hcut
          obtain ⟨wb, hwb⟩ : ∃ wb, wb = wc := ⟨_, rfl⟩
          subst hwb
          have HX2 := Lib.hid (HX.out.own_ HO2.out)
          clear HX HL HRS HO2 HLB
          have hr30 : rs.length ≤ 30 := by have := HL2.out.ok.many; rw [HRS2.out] at this; exact this
          obtain ⟨b1, p, lb, rfl, lb1, hcell, hrc⟩ := HX2.out.last rs.length (Nat.le_refl _)
          rw [List.take_length] at hrc
          have HRC := Lib.hid hrc
          clear hrc
          go_wp2_with fail
          refine (rTwin_any p lb (raisedL rs) _ HRC.out (raisedL_len _)).mono ?_
          rintro e w3 ⟨g', lb', rfl, hR3, q1, q2, q3, q4, hb3⟩
          have HR3 := Lib.hid hR3
          have HB3 := Lib.hid hb3
          have HQ3 := Lib.hid (And.intro q1 (And.intro q2 (And.intro q3 q4)))
          have GW : Below w.heap.size w w3 := grow_step HL2.out.bel hb3
          clear hR3 hb3 q1 q2 q3 q4 hcell lb1 HRC
          obtain ⟨B, hB⟩ : ∃ B, raiseB (raisedL rs) nm v = B := ⟨_, rfl⟩
          obtain ⟨E, hE⟩ : ∃ E, raiseE (raisedL rs) nm v = E := ⟨_, rfl⟩
          have HM2 := Lib.hid (fun w h => rRaise3_any g' lb' (raisedL rs) nm v w h (by omega) (raisedL_len _))
          unfold RaisePost3 at HM2
          rw [hB, hE] at HM2
          have HBE := Lib.hid (And.intro hB hE)
          clear hB hE
          go_upto_region 24 with fail
          have GW0 := grow_drew GW
          have GR : RC3 w3.drew g' lb' (raisedL rs) := HR3.out
          go_region_held3 (fun w' => w'.cell? ⟨bn, on + ai, none⟩ = some (.string nm) ∧ w'.cell? ⟨bl, ol + ai, none⟩ = some (.int .i64 v) ∧ Below w.heap.size w w')
            (first
              | exact ⟨(GW0.cell (p := ⟨bn, on + ai, none⟩) lbn).trans HCN.out, (GW0.cell (p := ⟨bl, ol + ai, none⟩) lbl).trans HCL.out, GW0⟩
              | (go_keep; done))
            (first
              | (go_at_call 14; refine (HM2.out _ GR).mono ?_; rintro e w4 ⟨rfl, ⟨lb2, hR4, hl4⟩, hk4⟩; have GW0 : Below w.heap.size w w4 := GW0.trans (hk4.below GW0.size (by intro j hj; have := HQ3.out; have := HL2.out.bel.size; omega))))
          obtain ⟨T2, HL4, HX4, F1, F2⟩ := next_made HL2.out HX2.out HB3.out HQ3.out.1 HQ3.out.2.1 HQ3.out.2.2.1 HQ3.out.2.2.2 (show But (fun k => k = g' ∨ k = lb') w3 w4 from (But.refl _ w3).drew.trans hk4 (fun _ _ h => h)) hR4 hl4
          have HL4 := Lib.hid HL4
          have HX4 := Lib.hid HX4
          have HFF := Lib.hid (And.intro F1 F2)
          have HR4 := Lib.hid hR4
          clear hk4 hl4 hR4 GR HM2 HQ3 HX2 HR3 HB3 F1 F2
          have HNW := Lib.hid (next_ways rs nm v)
          have HNS2 := Lib.hid (nextE_set rs nm v)
          have hsh := raise_shape HL4.out.ok nm v
          rw [HRS2.out] at hsh
          obtain ⟨nB, hnB⟩ : ∃ nB, nextB rs nm v = nB := ⟨_, rfl⟩
          obtain ⟨nE, hnE⟩ : ∃ nE, nextE rs nm v = nE := ⟨_, rfl⟩
          rw [hnB, hnE] at hsh HNW
          rw [hnE] at HNS2
          rw [HBE.out.1, HBE.out.2] at HNW
          have HSH := Lib.hid hsh
          clear hsh hnB hnE HBE
          go_upto_region 25 with fail
          obtain ⟨D, hD⟩ : ∃ D, decide (rs.length = 30) = D := ⟨_, rfl⟩
          have HDD := Lib.hid hD
          clear hD
          go_cut [183] from 178 to 183 (fun t wx => t = .bool (B && D) ∧ wx = w4)
          case first =>
            as_aux_lemma =>
              cases B
              · go_wp2_with fail
                go_meet
                exact ⟨rfl, rfl⟩
              · cases D
                · have q : ¬ (30 : Int) < (rs.length : Int) + 1 := by have := of_decide_eq_false HDD.out; omega
                  go_wp2_with fail
                  go_meet
                  exact ⟨rfl, rfl⟩
                · have q : (30 : Int) < (rs.length : Int) + 1 := by have := of_decide_eq_true HDD.out; omega
                  go_wp2_with fail
                  go_meet
                  exact ⟨rfl, rfl⟩
          case rest =>
          obtain ⟨rfl, rfl⟩ := hcut
          obtain ⟨w4, hw4⟩ : ∃ w4, w4 = wc := ⟨_, rfl⟩
          subst hw4
          go_upto_if 183 with fail
          go_cut [26, 27] (fun is e wx => is = .bool nB ∧ e = .int .i64 nE ∧ wx = w4)
          case first =>
            as_aux_lemma =>
              cases B
              · have HW := Lib.hid (HNW.out.1 rfl)
                cases D
                · go_wp2_with fail
                  go_meet
                  exact ⟨by rw [HW.out.1], by rw [HW.out.2], rfl⟩
                · go_wp2_with fail
                  go_meet
                  exact ⟨by rw [HW.out.1], by rw [HW.out.2], rfl⟩
              · cases D
                · have HW := Lib.hid (HNW.out.2.2 rfl (of_decide_eq_false HDD.out))
                  go_wp2_with fail
                  go_meet
                  exact ⟨by rw [HW.out.1], by rw [HW.out.2], rfl⟩
                · have HW := Lib.hid (HNW.out.2.1 rfl (of_decide_eq_true HDD.out))
                  go_wp2_with fail
                  go_meet
                  exact ⟨by rw [HW.out.1], by rw [HW.out.2], rfl⟩
          case rest =>
          obtain ⟨rfl, rfl, rfl⟩ := hcut
          obtain ⟨w4, hw4⟩ : ∃ w4, w4 = wc := ⟨_, rfl⟩
          subst hw4
          have HBY := lgBytes_at HL4.out
          obtain ⟨Z, hZ⟩ : ∃ Z : Nat, (bytesB L2.recs L2.half).size = Z := ⟨_, rfl⟩
          rw [hZ] at HBY
          have HBY := Lib.hid HBY
          have HZ := Lib.hid hZ
          have hZb : Z ≤ 500 := by rw [← hZ]; exact bytesB_size HL4.out.ok
          clear hZ
          go_wp2_with fail
          refine HBY.out.mono ?_
          rintro e w' ⟨rfl, rfl⟩
          go_upto_region 29 with fail
          have GW1 := grow_drew GW0
          have GL := HL4.out.below (grow_drew (grow_refl _))
          go_region_held3 (fun w' => w'.cell? ⟨bn, on + ai, none⟩ = some (.string nm) ∧ w'.cell? ⟨bl, ol + ai, none⟩ = some (.int .i64 v) ∧ Below w.heap.size w w')
            (first
              | exact ⟨(GW1.cell (p := ⟨bn, on + ai, none⟩) lbn).trans HCN.out, (GW1.cell (p := ⟨bl, ol + ai, none⟩) lbl).trans HCL.out, GW1⟩
              | (go_keep; done))
            (first
              | (go_at_call 6; refine (lgRaise_at nm v GL hz (by omega) HT.out HM.out).mono ?_; rintro e w5 ⟨rfl, hL5, hk5⟩; have GW1 : Below w.heap.size w w5 := hL5.bel))
          have hk5 : LogOwn T2 w w4 w5 := (But.refl _ w4).drew.trans hk5 (fun _ _ h => h)
          have HX5 := HX4.out.own_ hk5
          have HR5c : RC3 w5 g' lb2 (raiseL (raisedL rs) nm v) := HR4.out.but hk5 (fun h => h.2 HFF.out.1.1) (fun h => h.2 HFF.out.2.1)
          obtain ⟨⟨o1, L5⟩, hro⟩ : ∃ r, raiseOut L2 nm v = r := ⟨_, rfl⟩
          have HSH := HSH.out
          rw [hro] at HSH hL5 ⊢
          simp only at HSH hL5 ⊢
          have HL5 := Lib.hid hL5
          have HX5 := Lib.hid HX5
          have HR5c := Lib.hid HR5c
          have hw5 : Below w.heap.size w w5 := HL5.out.bel
          clear hL5 hk5 hro GL GW0 GW1 HL4 HX4 HR4 HBY HL2
          rcases HSH with ⟨rfl, hrec⟩ | ⟨rfl, rfl, hrec⟩ | ⟨rfl, rfl, rfl, hrec, hh2, hh5⟩
          · skip
            as_aux_lemma =>
              simp only
              have HR5 : Hid (L5.recs = rs) := Lib.hid hrec
              have hI : I64 nE := by have := HNS2.out; constructor <;> omega
              clear hrec HRS2
              go_wp2_with fail
              refine (error_any 6 6 _ (HD.out.below hw5) (by constructor <;> decide)).mono ?_
              rintro e w6 ⟨rfl, hb6⟩
              have hw6 : Below w.heap.size w w6 := grow_step hw5 hb6
              go_wp2_with fail
              refine (error_any 6 nE _ (HD.out.below hw6) (by constructor <;> decide)).mono ?_
              rintro e w7 ⟨rfl, hb7⟩
              have hw7 : Below w.heap.size w w7 := grow_step hw6 hb7
              have HL7 := Lib.hid ((HL5.out.below hb6).below hb7)
              have HX7 := Lib.hid ((HX5.out.below hb6).below hb7)
              obtain ⟨TB, hTB⟩ : ∃ TB : Bool, (6 == nE) = TB := ⟨_, rfl⟩
              rw [hTB]
              clear hb6 hb7 hw5 hw6 HL5 HX5 HR5c hTB
              obtain ⟨b5, p5, lb5, e5, lt5, hc5, hr5⟩ := HX7.out.last rs.length (Nat.le_refl _)
              injection e5 with e5
              injection e5 with e5 _ _
              subst e5
              rw [List.take_length] at hr5
              have HR7 : Hid (RCnt w7 p5 (raisedL L5.recs)) := Lib.hid (by rw [HR5.out]; exact hr5.cnt)
              clear hr5
              go_wp2_with fail
              refine (alike_any w7 g _ L5 p5 _ ns cn HL7.out HR7.out (HN.out.below hw7) hnl HNS.out (HD.out.below hw7)).mono ?_
              rintro e w8 ⟨rfl, hb8⟩
              have HL8 := Lib.hid (HL7.out.below hb8)
              have HX8 := Lib.hid (HX7.out.below hb8)
              clear hb8
              go_wp2_with fail
              go_roundw
              case rel => exact ⟨T2, ps, rs, some ⟨b1, 0, none⟩, c1, A2, c2, ai + 1, ki + 1, L5, rfl, rfl, rfl, rfl, by omega, by omega, HR5, Lib.hid (HL8.out.mono (by omega)), HX8⟩
              case measure => simp only [intOf]; omega
          · skip
            as_aux_lemma =>
              simp only
              obtain rfl : L5 = L2 := hrec
              have HR5 : Hid (L5.recs = rs) := HRS2
              have hI : I64 nE := by have := HNS2.out; constructor <;> omega
              have t6 : (nE == 6) = false := by have := HNS2.out; simp; omega
              have tE : (nE == nE) = true := by simp
              clear HRS2
              go_wp2_with fail
              refine (error_any nE 6 _ (HD.out.below hw5) hI).mono ?_
              rintro e w6 ⟨rfl, hb6⟩
              have hw6 : Below w.heap.size w w6 := grow_step hw5 hb6
              rw [t6]
              go_wp2_with fail
              refine (error_any nE nE _ (HD.out.below hw6) hI).mono ?_
              rintro e w7 ⟨rfl, hb7⟩
              have hw7 : Below w.heap.size w w7 := grow_step hw6 hb7
              have HL7 := Lib.hid ((HL5.out.below hb6).below hb7)
              have HX7 := Lib.hid ((HX5.out.below hb6).below hb7)
              rw [tE]
              clear hb6 hb7 hw5 hw6 HL5 HX5 HR5c t6 tE hI
              obtain ⟨b5, p5, lb5, e5, lt5, hc5, hr5⟩ := HX7.out.last rs.length (Nat.le_refl _)
              injection e5 with e5
              injection e5 with e5 _ _
              subst e5
              rw [List.take_length] at hr5
              have HR7 : Hid (RCnt w7 p5 (raisedL L5.recs)) := Lib.hid (by rw [HR5.out]; exact hr5.cnt)
              clear hr5
              have HBY := lgBytes_at HL7.out
              rw [HZ.out] at HBY
              have HBY := Lib.hid HBY
              by_cases hE0 : nE = 0
              · have t0 : (nE == 0) = true := by simp [hE0]
                clear hE0
                go_wp2_with fail
                refine HBY.out.mono ?_
                rintro e w' ⟨rfl, rfl⟩
                go_wp2_with fail
                refine (alike_any w7 g _ L5 p5 _ ns cn HL7.out HR7.out (HN.out.below hw7) hnl HNS.out (HD.out.below hw7)).mono ?_
                rintro e w8 ⟨rfl, hb8⟩
                have HL8 := Lib.hid (HL7.out.below hb8)
                have HX8 := Lib.hid (HX7.out.below hb8)
                clear hb8
                go_wp2_with fail
                go_roundw
                case rel => exact ⟨T2, ps, rs, some ⟨b1, 0, none⟩, c1, A2, c2, ai + 1, ki + 1, L5, rfl, rfl, rfl, rfl, by omega, by omega, HR5, Lib.hid (HL8.out.mono (by omega)), HX8⟩
                case measure => simp only [intOf]; omega
              · have t0 : (nE == 0) = false := by simp [hE0]
                clear hE0
                go_wp2_with fail
                refine (alike_any w7 g _ L5 p5 _ ns cn HL7.out HR7.out (HN.out.below hw7) hnl HNS.out (HD.out.below hw7)).mono ?_
                rintro e w8 ⟨rfl, hb8⟩
                have HL8 := Lib.hid (HL7.out.below hb8)
                have HX8 := Lib.hid (HX7.out.below hb8)
                clear hb8
                go_wp2_with fail
                go_roundw
                case rel => exact ⟨T2, ps, rs, some ⟨b1, 0, none⟩, c1, A2, c2, ai + 1, ki + 1, L5, rfl, rfl, rfl, rfl, by omega, by omega, HR5, Lib.hid (HL8.out.mono (by omega)), HX8⟩
                case measure => simp only [intOf]; omega
          · skip
            as_aux_lemma =>
              simp only
              have HR5 : Hid (L5.recs = rs ++ [(nm, v)]) := Lib.hid hrec
              have HZ5 : Hid ((bytesB L5.recs L5.half).size = flatN (rs ++ [(nm, v)]) ∧ Z + 2 ≤ flatN (rs ++ [(nm, v)])) := Lib.hid (by
                have e1 : (bytesB L5.recs L5.half).size = flatN (rs ++ [(nm, v)]) := by
                  have := bytesB_len (rs ++ [(nm, v)])
                  rw [HR5.out, hh5]; omega
                have e2 : Z = flatN rs := by
                  have := bytesB_len rs
                  rw [← HZ.out, HRS2.out, hh2]; omega
                have e3 : flatN (rs ++ [(nm, v)]) = flatN rs + (recB (nm, v)).size := by rw [flatN_app, flatN_cons (nm, v) []]; rfl
                have := recB_pos (nm, v)
                exact ⟨e1, by omega⟩)
              have hrl : rs.length ≤ 29 := by
                have := HL5.out.ok.many
                rw [HR5.out, List.length_append, List.length_singleton] at this
                omega
              clear hrec HRS2 hh2 hh5 hr30
              go_wp2_with fail
              refine (error_any 0 6 _ (HD.out.below hw5) (by constructor <;> decide)).mono ?_
              rintro e w6 ⟨rfl, hb6⟩
              have hw6 : Below w.heap.size w w6 := grow_step hw5 hb6
              go_wp2_with fail
              refine (error_any 0 0 _ (HD.out.below hw6) (by constructor <;> decide)).mono ?_
              rintro e w7 ⟨rfl, hb7⟩
              have hw7 : Below w.heap.size w w7 := grow_step hw6 hb7
              have HL7 := Lib.hid ((HL5.out.below hb6).below hb7)
              have HX7 := Lib.hid ((HX5.out.below hb6).below hb7)
              have HC7 : Hid (RC3 w7 g' lb2 (raisedL (rs ++ [(nm, v)]))) := Lib.hid (by rw [raisedL_snoc]; exact (HR5c.out.below hb6).below hb7)
              clear hb6 hb7 hw5 hw6 HL5 HX5 HR5c
              have HBY := lgBytes_at HL7.out
              obtain ⟨Y, hY⟩ : ∃ Y : Nat, flatN (rs ++ [(nm, v)]) = Y := ⟨_, rfl⟩
              rw [HZ5.out.1, hY] at HBY
              have tZ : ¬ (Y : Int) < (Z : Int) + 2 := by have := HZ5.out.2; omega
              have HBY := Lib.hid HBY
              have HY := Lib.hid hY
              clear hY
              go_wp2_with fail
              refine HBY.out.mono ?_
              rintro e w' ⟨rfl, rfl⟩
              have hb8 : Below w7.heap.size w7 (w7.alloc (.cells #[.pointer (some ⟨g', 0, none⟩)] 35)) := grow_alloc (grow_refl _) _
              have HX8 := Lib.hid (HX7.out.below hb8)
              have HL8 := Lib.hid (HL7.out.below hb8)
              have HC8 := Lib.hid (HC7.out.below hb8)
              have HCA : Hid (CellsAt (w7.alloc (.cells #[.pointer (some ⟨g', 0, none⟩)] 35)) (some ⟨w7.heap.size, 0, none⟩) [ptrV g']) := Lib.hid (CellsAt.new_ w7 35 [ptrV g'] (0, 0))
              have hwz : w.heap.size ≤ w7.heap.size := hw7.size
              clear hb8 HX7 HL7 HC7 HBY
              go_upto_region 38 with (at_builtin; refine app_cells_but rfl _ _ 39 35 rfl Tryz.underlying39 infoPtrC (by decide) (by decide) w.heap.size (some ⟨b1, 0, none⟩) c1 (rs.length + 1) (ps.map ptrV) rfl HX8.out.own1 ⟨w7.heap.size, 0, none⟩ 1 1 [ptrV g'] rfl HCA.out rfl (by simp [ptrV, Value.oneCell']) (by omega) (by omega) (by simp; omega) ?_; intro A9 c9 k9 w9 hk9 ho9 hb9 ha9)
              obtain rfl : k9 = rs.length + 1 + 1 := hk9.out
              have hx9 := HX8.out.snoc1 HC8.out HFF.out.1 HFF.out.2 ho9 hb9 ha9 (by simp; omega)
              have hl9 := HL8.out.grow (hb9.mono (fun k _ hk => HX8.out.t1 k hk)) (fun k hk => (HX8.out.tl k hk).1)
              have hwz9 : w.heap.size ≤ w9.heap.size := hl9.bel.size
              have HX9 := Lib.hid (hx9.below (grow_alloc (grow_refl _) (.cells #[.int .i64 (Y : Int)] 3)))
              have HL9 := Lib.hid (hl9.below (grow_alloc (grow_refl _) (.cells #[.int .i64 (Y : Int)] 3)))
              have HO9 : Hid (OwnC (w9.alloc (.cells #[.int .i64 (Y : Int)] 3)) w.heap.size 3 1 A2 c2 (rs.length + 1) ((marksOf rs).map intV)) := Lib.hid (by have := HX9.out.own2; rwa [marksOf_len] at this)
              have HCB : Hid (CellsAt (w9.alloc (.cells #[.int .i64 (Y : Int)] 3)) (some ⟨w9.heap.size, 0, none⟩) [intV (Y : Int)]) := Lib.hid (CellsAt.new_ w9 3 [intV (Y : Int)] (0, 0))
              have HBY := lgBytes_at hl9
              rw [HZ5.out.1, HY.out] at HBY
              have HBY := Lib.hid HBY
              clear hx9 hl9 HX8 HL8 HC8 ho9 hb9 ha9 hk9 HCA
              go_upto_region 41 with (first
                | (go_at_call 10; refine HBY.out.mono ?_; rintro e w' ⟨rfl, rfl⟩)
                | (at_builtin; refine app_cells_but rfl _ _ 23 3 rfl Tryz.underlying23 infoInt_ (by decide) (by decide) w.heap.size A2 c2 (rs.length + 1) ((marksOf rs).map intV) rfl HO9.out ⟨w9.heap.size, 0, none⟩ 1 1 [intV (Y : Int)] rfl HCB.out rfl (by simp [intV, Value.oneCell']) (by omega) (by omega) (by simp; omega) ?_; intro A10 c10 k10 w10 hk10 ho10 hb10 ha10))
              obtain rfl : k10 = rs.length + 1 + 1 := hk10.out
              have hx10 := HX9.out.snoc2 (x := (Y : Int)) (by rw [marksOf_len]; exact ho10) hb10 ha10 (by simp; omega)
              have hl10 := HL9.out.grow (hb10.mono (fun k _ hk => HX9.out.t2 k hk)) (fun k hk => (HX9.out.tl k hk).1)
              rw [show marksOf rs ++ [(Y : Int)] = marksOf (rs ++ [(nm, v)]) by rw [marksOf_snoc, HY.out]] at hx10
              have HX10 := Lib.hid hx10
              have HL10 := Lib.hid hl10
              have hw10 : Below w.heap.size w w10 := HL10.out.bel
              clear hx10 hl10 HX9 HL9 HO9 HCB HBY ho10 hb10 ha10 hk10
              obtain ⟨b5, p5, lb5, rfl, lt5, hc5, hr5⟩ := HX10.out.last (rs.length + 1) (by simp)
              rw [List.take_of_length_le (by simp)] at hr5
              have HR7 : Hid (RCnt w10 p5 (raisedL L5.recs)) := Lib.hid (by rw [HR5.out]; exact hr5.cnt)
              clear hr5
              go_wp2_with fail
              refine (alike_any w10 g _ L5 p5 _ ns cn HL10.out HR7.out (HN.out.below hw10) hnl HNS.out (HD.out.below hw10)).mono ?_
              rintro e w11 ⟨rfl, hb11⟩
              have HL11 := Lib.hid (HL10.out.below hb11)
              have HX11 := Lib.hid (HX10.out.below hb11)
              clear hb11
              go_wp2_with fail
              go_roundw
              case rel => exact ⟨_, ps ++ [g'], rs ++ [(nm, v)], some ⟨b5, 0, none⟩, c9, A10, c10, ai + 1, ki + 1, L5, by rw [List.length_append]; rfl, by rw [List.length_append]; rfl, rfl, rfl, by omega, by omega, HR5, Lib.hid (HL11.out.mono (by omega)), HX11⟩
              case measure => simp only [intOf]; omega
    case rest =>
      as_aux_lemma =>
        obtain ⟨T, ps, rs, A1, c1, A2, c2, ai, L, rfl, rfl, rfl, hai, HRS, HL, HX⟩ := hcut
        obtain ⟨wa, hwa⟩ : ∃ wa, wa = wc := ⟨_, rfl⟩
        subst hwa
        have hr30 : rs.length ≤ 30 := by have := HL.out.ok.many; rw [HRS.out] at this; exact this
        go_upto_if 264 with fail
        go_cut [34] (fun kp wx => ∃ kv, kp = .int .i64 kv ∧ Hid (I64 kv) ∧ wx = wa)
        case first =>
          as_aux_lemma =>
            by_cases c3 : ri < ks.length
            · have g3 : (ri : Int) < (ks.length : Int) := by omega
              obtain ⟨b0, off, rfl, hlt0, hc0⟩ := HK.out ri c3
              have hy0 := HKI.out (ks.getD ri 0) (by rw [List.getD_eq_getElem?_getD, List.getElem?_eq_getElem c3]; exact List.getElem_mem _)
              obtain ⟨y, hy⟩ : ∃ y, ks.getD ri 0 = y := ⟨_, rfl⟩
              rw [hy] at hc0 hy0
              have hc := (HL.out.bel.cell (p := ⟨b0, off + ri, none⟩) hlt0).trans hc0
              have lb0 := Nat.lt_of_lt_of_le hlt0 HL.out.bel.size
              have HY := Lib.hid hy0
              clear hy c3 hy0
              go_wp2_with fail
              go_meet
              exact ⟨y, rfl, HY, rfl⟩
            · have g3 : ¬ (ri : Int) < (ks.length : Int) := by omega
              clear c3
              go_wp2_with fail
              go_meet
              exact ⟨0, rfl, Lib.hid ⟨by decide, by decide⟩, rfl⟩
        case rest =>
        obtain ⟨kv, rfl, HKV, rfl⟩ := hcut
        obtain ⟨wa, hwa⟩ : ∃ wa, wa = wc := ⟨_, rfl⟩
        subst hwa
        have HBY := lgBytes_at HL.out
        have HSF := lgSafe_at HL.out
        obtain ⟨hb0, hb1, hb2⟩ := high_bd HL.out.ok kv
        have hz5 := bytesB_size HL.out.ok
        have hs0 := HL.out.ok.safe0
        obtain ⟨k, hk⟩ : ∃ k, wholeN rs (highOf L kv).toNat = k := ⟨_, rfl⟩
        have hkl : k ≤ rs.length := by rw [← hk]; exact wholeN_le _ _
        have hit := fun i (hi : i ≤ rs.length) => wholeN_iff rs (highOf L kv).toNat i hi
        rw [hk] at hit
        have hcr : crashOut L kv = { recs := rs.take k, half := [], safe := flatN (rs.take k), left := -1, st := false } := by
          unfold crashOut
          rw [HRS.out, hk]
        obtain ⟨H, hH⟩ : ∃ H : Nat, highOf L kv = (H : Int) := ⟨(highOf L kv).toNat, by omega⟩
        rw [hH] at hit hb0 hb1
        rw [Int.toNat_natCast] at hit
        unfold highOf at hH
        obtain ⟨Z, hZ⟩ : ∃ Z : Nat, (bytesB L.recs L.half).size = Z := ⟨_, rfl⟩
        obtain ⟨S, hS⟩ : ∃ S : Nat, L.safe = (S : Int) := ⟨L.safe.toNat, by omega⟩
        rw [hZ] at HBY hb1 hb2 hz5 hH
        rw [hS] at HSF hb2 hH
        have HBY := Lib.hid HBY
        have HSF := Lib.hid HSF
        have HIT := Lib.hid hit
        have HCR := Lib.hid hcr
        have HH := Lib.hid hH
        have hSZ : S ≤ Z := by omega
        have hHZ : H ≤ Z := by omega
        clear hk hit hcr hH hZ hS hb0 hb1 hb2 hs0
        go_wp2_with fail
        refine HBY.out.mono ?_
        rintro e w' ⟨rfl, rfl⟩
        go_wp2_with fail
        refine HSF.out.mono ?_
        rintro e w' ⟨rfl, rfl⟩
        go_wp2_with fail
        refine (lgCrash_at kv HKV.out HL.out HM.out).mono ?_
        rintro e w5 ⟨rfl, hL5, hk5⟩
        have HX5 := Lib.hid (HX.out.own_ hk5)
        have HL5 := Lib.hid hL5
        clear hL5 hk5 HX HL HBY HSF
        go_upto_region 52 with fail
        obtain ⟨D1, hD1⟩ : ∃ D, decide (0 < kv) = D := ⟨_, rfl⟩
        obtain ⟨D2, hD2⟩ : ∃ D, decide (kv < (Z : Int) - (S : Int)) = D := ⟨_, rfl⟩
        have HD1 := Lib.hid hD1
        have HD2 := Lib.hid hD2
        clear hD1 hD2
        go_cut [285] (fun t wx => t = .bool (D1 && D2) ∧ wx = w5)
        case first =>
          as_aux_lemma =>
            cases D1
            · have q : ¬ 0 < kv := of_decide_eq_false HD1.out
              go_wp2_with fail
              go_meet
              exact ⟨rfl, rfl⟩
            · have q : 0 < kv := of_decide_eq_true HD1.out
              cases D2
              · have q2 : ¬ kv < (Z : Int) - (S : Int) := of_decide_eq_false HD2.out
                go_wp2_with fail
                go_meet
                exact ⟨rfl, rfl⟩
              · have q2 : kv < (Z : Int) - (S : Int) := of_decide_eq_true HD2.out
                go_wp2_with fail
                go_meet
                exact ⟨rfl, rfl⟩
        case rest =>
        obtain ⟨rfl, rfl⟩ := hcut
        obtain ⟨w5, hw5⟩ : ∃ w5, w5 = wc := ⟨_, rfl⟩
        subst hw5
        go_upto_if 285 with fail
        go_cut [37] (fun h wx => h = .int .i64 (H : Int) ∧ wx = w5)
        case first =>
          as_aux_lemma =>
            cases D1
            · have q : ¬ 0 < kv := of_decide_eq_false HD1.out
              cases D2
              · go_wp2_with fail
                go_meet
                exact ⟨by rw [i64_eq (show (S : Int) = (H : Int) by have := HH.out; omega)], rfl⟩
              · go_wp2_with fail
                go_meet
                exact ⟨by rw [i64_eq (show (S : Int) = (H : Int) by have := HH.out; omega)], rfl⟩
            · have q : 0 < kv := of_decide_eq_true HD1.out
              cases D2
              · have q2 : ¬ kv < (Z : Int) - (S : Int) := of_decide_eq_false HD2.out
                go_wp2_with fail
                go_meet
                exact ⟨by rw [i64_eq (show (Z : Int) = (H : Int) by have := HH.out; omega)], rfl⟩
              · have q2 : kv < (Z : Int) - (S : Int) := of_decide_eq_true HD2.out
                go_wp2_with fail
                go_meet
                exact ⟨by rw [i64_eq (show (S : Int) + kv = (H : Int) by have := HH.out; omega)], rfl⟩
        case rest =>
        obtain ⟨rfl, rfl⟩ := hcut
        obtain ⟨w5, hw5⟩ : ∃ w5, w5 = wc := ⟨_, rfl⟩
        subst hw5
        have hc1 := HX5.out.own1.cap
        have hc2 := HX5.out.own2.cap
        rw [marksOf_len] at hc2
        obtain ⟨b2, rfl, lb2, _⟩ := HX5.out.mark 0 (by rw [marksOf_len]; omega)
        obtain ⟨b1, p0, l0, rfl, lb1, _, _⟩ := HX5.out.last 0 (by omega)
        have HMK : Hid (∀ j, j ≤ rs.length → w5.cell? ⟨b2, j, none⟩ = some (.int .i64 (flatN (rs.take j) : Int))) := Lib.hid (fun j hj => by
          obtain ⟨b, e, _, hc⟩ := HX5.out.mark j (by rw [marksOf_len]; omega)
          injection e with e
          injection e with e _ _
          subst e
          rw [marksOf_at _ _ hj] at hc
          exact hc)
        go_wp2_with fail
        go_loopw [38, 39] (fun lf i wr => ∃ j : Nat, i = .int .i64 j ∧ j ≤ rs.length + 1 ∧ lf = .int .i64 (min (j - 1) k : Nat) ∧ wr = w5) (fun _ i _ => rs.length + 1 - (intOf i).toNat)
        case atStart => exact ⟨0, rfl, by omega, by simp, rfl⟩
        case round =>
          as_aux_lemma =>
            obtain ⟨j, rfl, hj, rfl, hwr⟩ := hrel
            subst hwr
            obtain ⟨w6, hw6⟩ : ∃ w6, w6 = wr := ⟨_, rfl⟩
            subst hw6
            by_cases c3 : j < rs.length + 1
            · have g3 : (j : Int) < (rs.length : Int) + 1 := by omega
              have hm := HMK.out j (by omega)
              have hq := HIT.out j (by omega)
              obtain ⟨M, hM⟩ : ∃ M, flatN (rs.take j) = M := ⟨_, rfl⟩
              rw [hM] at hm hq
              by_cases hle : j ≤ k
              · have q : (M : Int) ≤ (H : Int) := by have := hq.2 hle; omega
                have HLE := Lib.hid hle
                clear hq hM hle c3
                go_wp2_with fail
                go_roundw
                case rel => exact ⟨j + 1, rfl, by omega, by rw [show min (j + 1 - 1) k = j by have := HLE.out; omega], by first | rfl | trivial⟩
                case measure => simp only [intOf]; omega
              · have q : ¬ (M : Int) ≤ (H : Int) := fun h => hle (hq.1 (by omega))
                have HLE := Lib.hid hle
                clear hq hM hle c3
                go_wp2_with fail
                go_roundw
                case rel => exact ⟨j + 1, rfl, by omega, by rw [show min (j + 1 - 1) k = min (j - 1) k by have := HLE.out; omega], by first | rfl | trivial⟩
                case measure => simp only [intOf]; omega
            · have g3 : ¬ (j : Int) < (rs.length : Int) + 1 := by omega
              rw [show min (j - 1) k = k by omega]
              have hk1 : k + 1 ≤ c1 := by omega
              have hk2 : k + 1 ≤ c2 := by omega
              obtain ⟨b5, p5, lb5, e5, lt5, hc5, hr5⟩ := HX5.out.last k hkl
              injection e5 with e5
              injection e5 with e5 _ _
              subst e5
              have HR7 : Hid (RCnt w6 p5 (raisedL (crashOut L kv).recs)) := Lib.hid (by rw [HCR.out]; exact hr5.cnt)
              have hw6 : Below w.heap.size w w6 := HL5.out.bel
              clear hr5 c3 hj
              go_wp2_with fail
              refine (alike_any w6 g _ (crashOut L kv) p5 _ ns cn HL5.out HR7.out (HN.out.below hw6) hnl HNS.out (HD.out.below hw6)).mono ?_
              rintro e w8 ⟨rfl, hb8⟩
              have HL8 := Lib.hid (HL5.out.below hb8)
              have HX8 := Lib.hid ((HX5.out.take k hkl (marksOf_len rs)).below hb8)
              have hm8 := (hb8.cell (p := ⟨b2, k, none⟩) lb2).trans (HMK.out k hkl)
              have lm8 : b2 < w8.heap.size := Nat.lt_of_lt_of_le lb2 hb8.size
              obtain ⟨M, hM⟩ : ∃ M, flatN (rs.take k) = M := ⟨_, rfl⟩
              have HBY : Hid (∀ n, Calls Tryz.prog 10 #[.pointer (some ⟨g, 0, none⟩)] (w8.drewN n) fun e w' => e = .returned (.int .i64 (M : Int)) ∧ w8.drewN n = w') := Lib.hid (fun n => by
                have h := lgBytes_at (HL8.out.below (grow_drewN (grow_refl _) n))
                rw [HCR.out] at h
                simp only at h
                rw [bytesB_len, hM] at h
                exact h)
              have HSF : Hid (∀ n, Calls Tryz.prog 11 #[.pointer (some ⟨g, 0, none⟩)] (w8.drewN n) fun e w' => e = .returned (.int .i64 (M : Int)) ∧ w8.drewN n = w') := Lib.hid (fun n => by
                have h := lgSafe_at (HL8.out.below (grow_drewN (grow_refl _) n))
                rw [HCR.out] at h
                simp only at h
                rw [hM] at h
                exact h)
              rw [hM] at hm8
              clear hb8 HX5 HL5 HR7 hM
              go_upto_region 65 with fail
              go_quiet (first
                | (go_at_call 10; exact Calls.quiet_of_same ((HBY.out _).mono (fun _ _ h => ⟨h.1, h.2.symm⟩)))
                | (go_at_call 11; exact Calls.quiet_of_same ((HSF.out _).mono (fun _ _ h => ⟨h.1, h.2.symm⟩))))
              go_wp2_with fail
              go_roundw
              case rel => exact ⟨T, ps.take (k + 1), rs.take k, some ⟨b1, 0, none⟩, c1, some ⟨b2, 0, none⟩, c2, ai, ri + 1, crashOut L kv, by rw [List.length_take, Nat.min_eq_left hkl], by rw [List.length_take, Nat.min_eq_left hkl], rfl, rfl, by omega, hai, Lib.hid (by rw [HCR.out]), Lib.hid (HL8.out.below (grow_drewN (grow_refl _) _)), Lib.hid (by rw [← marksOf_take rs k hkl]; exact HX8.out.below (grow_drewN (grow_refl _) _))⟩
              case measure => simp only [intOf]; omega

set_option maxRecDepth 100000 in
theorem logKeeps_walks (H : Type) (enc : TypeId × Value → H) : WalksD enc Tryz.prog TabTD 3 Tryz.f3 := by
  intro W base args ds p hval hA hlt hsz hsh hdoor
  have hsz0 := hsz
  rw [Tryz.params3] at hA hval
  obtain ⟨v0, vs0, d0, ds0, p0, q0, hargs, rfl, rfl, h0, r0⟩ := trodAll_cons hA
  obtain ⟨v1, vs1, d1, ds1, p1, q1, rfl, rfl, rfl, h1, r1⟩ := trodAll_cons r0
  obtain ⟨v2, vs2, d2, ds2, p2, q2, rfl, rfl, rfl, h2, r2⟩ := trodAll_cons r1
  obtain ⟨v3, vs3, d3, ds3, p3, q3, rfl, rfl, rfl, h3, r3⟩ := trodAll_cons r2
  obtain ⟨v4, vs4, d4, ds4, p4, q4, rfl, rfl, rfl, h4, r4⟩ := trodAll_cons r3
  obtain ⟨rfl, rfl, rfl⟩ := trodAll_nil r4
  obtain rfl : args = #[v0, v1, v2, v3, v4] := by cases args; simp_all
  obtain ⟨A0, a0, c0, rfl, w0, z0, y0, g0⟩ := op_strings (hval 0 22 v0 rfl rfl) h0 (fun x hx => hlt x (by simp [hx])) (w_each hsz 0 22 _ (by rw [Tryz.params3]; rfl) rfl)
  obtain ⟨A1, a1, c1, rfl, w1, i1, z1⟩ := op_ints (hval 1 23 v1 rfl rfl) h1 (fun x hx => hlt x (by simp [hx])) (w_each hsz 1 23 _ (by rw [Tryz.params3]; rfl) rfl)
  obtain ⟨A2, a2, c2, rfl, w2, i2, z2⟩ := op_ints (hval 2 23 v2 rfl rfl) h2 (fun x hx => hlt x (by simp [hx])) (w_each hsz 2 23 _ (by rw [Tryz.params3]; rfl) rfl)
  obtain ⟨A3, a3, c3, rfl, w3, i3, z3⟩ := op_ints (hval 3 23 v3 rfl rfl) h3 (fun x hx => hlt x (by simp [hx])) (w_each hsz 3 23 _ (by rw [Tryz.params3]; rfl) rfl)
  obtain ⟨A4, a4, c4, rfl, w4, i4, z4⟩ := op_ints (hval 4 23 v4 rfl rfl) h4 (fun x hx => hlt x (by simp [hx])) (w_each hsz 4 23 _ (by rw [Tryz.params3]; rfl) rfl)
  exact logKeeps_walk W A0 a0 c0 A1 a1 c1 A2 a2 c2 A3 a3 c3 A4 a4 c4 w0 z0 y0 g0 w1 i1 z1 w2 i2 z2 w3 i3 z3 w4 i4 z4 hsh hdoor

set_option maxRecDepth 100000 in
theorem logKeeps_lifted (os : Os) (started : os.Started) (H : Type) (enc : TypeId × Value → H) :
    ReturnsInHanded {} Tryz.checked os 3 .any (fun w args => (Rows.logKeepsSpec.pre enc Tryz.checked.prog Tryz.f3 [] false w args ∧ laidMetH Tryz.checked.prog LaidTDS w) ∧ sizedMet enc Tryz.checked.prog Tryz.f3 (OpenSpec.ofChange Rows.logKeepsSpec) false w args) (Rows.logKeepsSpec.post enc Tryz.checked.prog Tryz.f3 false true false false) :=
  returns_of_walkD (C := Tryz.checked) (s := Rows.logKeepsSpec) (L := LaidTDS) (D := TabTD) own started (by kernel_rfl) Tryz.func3
    (ChangeSpec.witness_at (enc := enc) (C := Tryz.checked) (os := os) (X := fun w _ => laidMetH Tryz.prog LaidTDS w) false (laidWorldTDS os) #[.slice none 0 0, .slice none 0 0, .slice none 0 0, .slice none 0 0, .slice none 0 0] 8 rfl (by kernel_rfl) (by kernel_rfl) (by kernel_rfl) (by kernel_rfl) (by kernel_rfl) (laidWorldTDS_met os _))
    (fun W h => tabTDS_of_laid h) laidOut (by kernel_rfl) rfl Tryz.underlying4 rfl (fun ds h => by match ds, h with | [_, _, _, _, _], _ => rfl) (logKeeps_walks H enc)

theorem logKeeps_bare : Rows.LogKeepsSaid :=
  OpenClaim.holds_of_wide 3 Tryz.f3 rfl rfl rfl rfl rfl rfl rfl ⟨rfl, rfl, rfl, rfl, rfl⟩ rfl rfl rfl rfl rfl (by kernel_rfl) Tryz.func3 (by kernel_rfl)
    (of_decide_eq_true (by kernel_rfl)) (by unfold Func.isWrapper; rw [if_neg (of_decide_eq_false (by kernel_rfl))]; exact ⟨rfl, rfl⟩)
    (fun os started H enc _ => logKeeps_lifted os started H enc)

theorem logKeeps_holds : Rows.LogKeepsCardSaid :=
  Claim7.holds_tied_plain_at .later [] [.data, .data, .data, .handle, .sentinel, .sentinel] true Rows.logKeepsCard.stood.harness true
    logKeeps_bare (fun _ h => by cases h) (by kernel_rfl) (fun _ h => by cases h) logKeeps_row_tie rfl ⟨rfl, rfl⟩ (by kernel_rfl) rfl
    (fun f fn hf hfn => by
      obtain rfl : f = 3 := Option.some.inj ((show Tryz.prog.funcNamed "bootstair/stairlaw3.LogKeeps" = some 3 by kernel_rfl).symm.trans hf) |>.symm
      obtain rfl : fn = Tryz.f3 := (Option.some.inj (Tryz.func3.symm.trans hfn)).symm
      exact ⟨by kernel_rfl, fun j t ht => by
        have hm : t ∈ Tryz.f3.params.toList := by simpa using Array.mem_of_getElem? ht
        have hall : (Tryz.f3.params.toList.all fun u => !Tryz.prog.wantsStandIn u) = true := by kernel_rfl
        exact (show Tryz.prog.wantsStandIn t = false by simpa using List.all_eq_true.1 hall t hm)⟩)
    (by kernel_rfl)

end Go.Proofs.YtkipjloapdolbaaGreatDoor
