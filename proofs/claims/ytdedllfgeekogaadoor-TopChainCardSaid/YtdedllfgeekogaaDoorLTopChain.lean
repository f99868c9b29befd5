/- TopChain: images signed by the last of a chain of keys are put by a device that knows the first alone, as long as each is newer than what was good. The package variables that the text lays (strconv's tables, errors.errorType) hold what it lays. -/
import Derived.Test.YtdedllfgeekogaaDoorRows
import Derived.Test.YtdedllfgeekogaaDoorOpen
import Derived.Test.YtdedllfgeekogaaDoorOpI
import Derived.Test.YtdedllfgeekogaaDoorOpC
import Derived.Test.YtdedllfgeekogaaDoorNum
import Derived.Test.YtdedllfgeekogaaDoorBase
import Derived.Test.YtdedllfgeekogaaDoorKey
import Derived.Test.YtdedllfgeekogaaDoorCert
import Derived.Test.YtdedllfgeekogaaDoorSeal
import Derived.Test.YtdedllfgeekogaaDoorBds
import Derived.Test.YtdedllfgeekogaaDoorImg
import Derived.Test.YtdedllfgeekogaaDoorImg2
import Derived.Test.YtdedllfgeekogaaDoorSign
import Derived.Test.YtdedllfgeekogaaDoorSign2
import Derived.Test.YtdedllfgeekogaaDoorFoot
import Derived.Test.YtdedllfgeekogaaDoorSlot
import Derived.Test.YtdedllfgeekogaaDoorSInv
import Derived.Test.YtdedllfgeekogaaDoorCntP
import Derived.Test.YtdedllfgeekogaaDoorCntC
import Derived.Test.YtdedllfgeekogaaDoorUpdP
import Derived.Test.YtdedllfgeekogaaDoorDev
import Derived.Test.YtdedllfgeekogaaDoorDev3
import Derived.Test.YtdedllfgeekogaaDoorTop
import Derived.Test.YtdedllfgeekogaaDoorQuietC
import Derived.Test.YtdedllfgeekogaaDoorTold
import Derived.Test.YtdedllfgeekogaaDoorLiftD
import Derived.Test.YtdedllfgeekogaaDoorLiftT
import Derived.WalkKit
import Derived.WalkSpells
import Derived.Lib.Hide
import Derived.Deep.DeepCutAuto
import Derived.Deep.QuietTactic
import Derived.BigQuiet
import Derived.RegionTactic
import Derived.BigRegion
namespace Go.Proofs.YtdedllfgeekogaaDoor
open Go.ChangeShapes Go.WideShapes Go.ChangeAt Go.RowKit
set_option linter.unusedVariables false
set_option linter.unusedSimpArgs false
set_option maxRecDepth 100000

theorem infoCert : (Tryd.prog.info? 60).map (fun i => (i.zero, i.size, i.bytes)) = some (some (.agg #[.int .i64 0, .int .i64 0, .int .i64 0]), 3, 24) := by kernel_rfl
/-- What the rounds have done: j of them. -/
def Chain (ss : List Int) (cs : List (Int × Int × Int)) (j : Nat) (f l : Int) : Prop :=
  (j = 0 ∧ cs = [] ∧ f = 0 ∧ l = 0) ∨ (0 < j ∧ cs.length + 1 = j ∧ okIn f = true ∧ l = pwI 64 (ss.getD (j - 1) 0) ∧ okSecret (ss.getD (j - 1) 0) = true ∧ lastGo f cs = (l, 0))

theorem Chain.len {ss : List Int} {cs : List (Int × Int × Int)} {j : Nat} {f l : Int} (h : Chain ss cs j f l) : cs.length ≤ j := by
  rcases h with ⟨_, rfl, _⟩ | ⟨_, h, _⟩
  · simp
  · omega

theorem Inv.oneS {n : ByteArray} {v : Int} {c : ByteArray} {p a : Int} (hn : n.size ≤ 140737488351232) (hc : c.size ≤ 140737488351232) (iv : I64 v) (ip : I64 p) (ia : I64 a) (r : Bool) : Inv (oneS r n v c p a) := by
  have h := Inv.first hn hc iv ip ia
  cases r
  · exact h
  · exact ⟨noSlt_ok, h.x, rfl, rfl⟩
theorem rI_not (r : Bool) : (!(rI (!r) == rI r)) = true := by cases r <;> rfl
theorem rI_same (r : Bool) : (!(rI r == rI r)) = false := by cases r <;> rfl
def noX2 : Nat → Prop := fun _ => False
/-- What the second loop keeps. -/
structure Tch (w0 w : World) (gd gs b : Nat) (root x : Int) (nb : Nat) (r : Bool) (n : ByteArray) (gv : Int) (c : ByteArray) (p a : Int) (ls : List Cnt) (o : Option Im) : Prop where
  dev : DevAt w gd gs b root x nb (oneS r n gv c p a) ls o noX2
  ok : imgE n gv c = 0
  lsn : LsN n.data.toList ls
  ofl : ofL ls n.data.toList ≤ gv
  ip : I64 p
  ia : I64 a
  bel : Below w0.heap.size w0 w
/-- What the test of an update's fault reads. -/
def KeepT (w0 : World) (m : Nat) (cs : Array Value) (gd gs b : Nat) (root x : Int) (nb : Nat) (s : Slts) (ls : List Cnt) (o : Option Im) (w : World) : Prop := Box w m 24 cs ∧ DevAt w gd gs b root x nb s ls o noX2 ∧ Below w0.heap.size w0 w
theorem KeepT.below {w0 : World} {m : Nat} {cs : Array Value} {gd gs b : Nat} {root x : Int} {nb : Nat} {s : Slts} {ls : List Cnt} {o : Option Im} {w w' : World} (h : KeepT w0 m cs gd gs b root x nb s ls o w) (hb : Below w.heap.size w w') : KeepT w0 m cs gd gs b root x nb s ls o w' := ⟨h.1.below hb, h.2.1.below hb, grow_step h.2.2 hb⟩

set_option maxHeartbeats 8000000 in
theorem topChain_walk (w : World) (S : Option Addr) (ss : List Int) (sc : Nat) (k x : Int) (n : ByteArray) (v : Int) (c : ByteArray) (L : Option Addr) (l : List Int) (cl : Nat)
    (hS : IntsAt w S ss) (hi : ∀ x ∈ ss, I64 x) (hl : ss.length * 8 ≤ 140737488351232) (ik : I64 k) (ix : I64 x) (iv : I64 v) (hn : n.size ≤ 140737488351232) (hc : c.size ≤ 140737488351232) (hL : IntsAt w L l) (hli : ∀ x ∈ l, I64 x) (hll : l.length * 8 ≤ 140737488351232) (hg : TabTD w) :
    Calls Tryd.prog 4 #[.slice S ss.length sc, .int .i64 k, .int .i64 x, .agg #[.string n, .int .i64 v, .string c], .slice L l.length cl] w fun e w' => e = .returned (.bool true) ∧ Below w.heap.size w w' := by
  have en := fun k w => err_neq k w
  have ee := fun k w => err_eql k w
  have gn := fun o k w => err_guard_neq o k w
  have ge := fun o k w => err_guard_eql o k w
  obtain ⟨W, hW⟩ : ∃ W, w.alloc (.cells #[.string n, .int .i64 v, .string c] 24) = W := ⟨_, rfl⟩
  have hb0 : Below w.heap.size w W := by rw [← hW]; exact grow_alloc (grow_refl _) _
  have HF := Lib.hid (show Box W w.heap.size 24 #[.string n, .int .i64 v, .string c] from by rw [← hW]; exact Box.new w 24 _)
  have hsz : w.heap.size < W.heap.size := by rw [← hW]; simp
  have HG := Lib.hid (hg.2.below hb0)
  have HT := Lib.hid (hg.1.below hb0)
  have HS := Lib.hid (hS.below hb0)
  have HL := Lib.hid (hL.below hb0)
  have HLI : Hid (∀ i, i < l.length → I64 (l.getD i 0)) := Lib.hid (fun i h => hli _ (by rw [List.getD_eq_getElem?_getD, List.getElem?_eq_getElem h]; exact List.getElem_mem h))
  have HB0 := Lib.hid hb0
  clear hg hS hL hi hli hb0
  go_enter Tryd.func4, Tryd.ntmps4
  go_wp2_with fail
  clear hW
  refine (one_any _ HT.out).mono ?_
  rintro e w1 ⟨rfl, hb1⟩
  by_cases h0 : ss.length = 0
  · have t0 : ((ss.length : Int) == 0) = true := by simp [h0]
    clear h0
    go_wp2_with fail
    go_ret
    exact ⟨rfl, grow_step HB0.out hb1⟩
  by_cases h10 : 10 < ss.length
  · have t0 : ((ss.length : Int) == 0) = false := by simp [h0]
    have t1 : (10 : Int) < (ss.length : Int) := by omega
    clear h0 h10
    go_wp2_with fail
    go_ret
    exact ⟨rfl, grow_step HB0.out hb1⟩
  have t0 : ((ss.length : Int) == 0) = false := by simp [h0]
  have t1 : ¬ (10 : Int) < (ss.length : Int) := by omega
  go_wp2_with fail
  clear t0 t1
  go_loopw [12, 13, 14, 15, 16, 17] (fun made first i _ _ _ wr => ∃ (A1 : Option Addr) (c1 n1 j : Nat) (cs : List (Int × Int × Int)) (f z : Int), made = .slice A1 n1 c1 ∧ first = .int .i64 f ∧ i = .int .i64 j ∧ j ≤ ss.length ∧ Hid (n1 = cs.length) ∧ Hid (OwnC wr W.heap.size 60 3 A1 c1 n1 (certCells cs)) ∧ Hid (Chain ss cs j f z) ∧ Below W.heap.size W wr) (fun _ _ i _ _ _ _ => ss.length - (intOf i).toNat)
  case atStart => exact ⟨none, 0, 0, 0, [], 0, 0, rfl, rfl, rfl, Nat.zero_le _, Lib.hid rfl, Lib.hid (OwnC.start _ _ _ _), Lib.hid (Or.inl ⟨rfl, rfl, rfl, rfl⟩), hb1⟩
  case round =>
    obtain ⟨A1, c1, n1, j, cs, f, z, rfl, rfl, rfl, hj, HN1, HO, HC, hb⟩ := hrel
    obtain rfl := HN1.out
    by_cases hlt : j < ss.length
    · have g0 : (j : Int) < (ss.length : Int) := by omega
      obtain ⟨b0, off, rfl, hbl, hcx⟩ := (HS.out.below hb) j hlt
      obtain ⟨s0, hs0⟩ : ∃ s0, ss.getD j 0 = s0 := ⟨_, rfl⟩
      rw [hs0] at hcx
      have HS0 := Lib.hid hs0
      clear hs0
      cases hx : okSecret s0
      · have HP : Hid (pubM s0 = 0 ∧ pubE s0 = 1) := Lib.hid ⟨pubM_no hx, pubE_no hx⟩
        go_wp2_with (go_at_call 8; refine (public_any _ _).mono ?_; rintro e w' ⟨rfl, rfl⟩; rw [HP.out.1, HP.out.2])
        go_ret
        exact ⟨rfl, grow_step HB0.out hb⟩
      · have HP : Hid (pubM s0 = pwI 64 s0 ∧ pubE s0 = 0) := Lib.hid ⟨pubM_yes hx, pubE_yes hx⟩
        have x1 := okSecret_yes hx
        have hin := key_in (x := s0) (by omega) (by omega)
        clear x1
        have HX := Lib.hid hx
        clear hx
        by_cases hj0 : j = 0
        · subst hj0
          rw [Nat.add_zero] at hcx
          have HF1 : Hid (cs = [] ∧ Chain ss cs 1 (pwI 64 s0) (pwI 64 s0)) := Lib.hid (by
            rcases HC.out with ⟨_, rfl, _⟩ | ⟨h, _⟩
            · exact ⟨rfl, Or.inr ⟨by decide, rfl, hin, by rw [HS0.out], by rw [HS0.out]; exact HX.out, rfl⟩⟩
            · exact absurd h (by decide))
          clear hin
          go_wp2_with (go_at_call 8; refine (public_any _ _).mono ?_; rintro e w' ⟨rfl, rfl⟩; rw [HP.out.1, HP.out.2])
          go_roundw
          case rel => exact ⟨A1, c1, _, 1, cs, _, _, rfl, rfl, rfl, by omega, Lib.hid rfl, HO, Lib.hid HF1.out.2, hb⟩
          case measure => simp [intOf]; omega
        · obtain ⟨m, rfl⟩ : ∃ m, j = m + 1 := ⟨j - 1, by omega⟩
          clear hj0
          obtain ⟨b0', off', e', _, hc2⟩ := (HS.out.below hb) m (by omega)
          injection e' with e'; injection e' with q1 q2; subst q1; subst q2
          obtain ⟨s1, hs1⟩ : ∃ s1, ss.getD m 0 = s1 := ⟨_, rfl⟩
          rw [hs1] at hc2
          have HS1 := Lib.hid hs1
          clear hs1
          go_wp2_with (first | (go_at_call 8; refine (public_any _ _).mono ?_; rintro e w' ⟨rfl, rfl⟩; rw [HP.out.1, HP.out.2]))
          have HK : Hid (cs.length = m ∧ okIn f = true ∧ z = pwI 64 s1 ∧ okSecret s1 = true ∧ lastGo f cs = (z, 0)) := Lib.hid (by
            rcases HC.out with ⟨h, _⟩ | ⟨_, h1, h2, h3, h4, h5⟩
            · exact absurd h (by omega)
            · have e1 : m + 1 - 1 = m := by omega
              rw [e1, HS1.out] at h3 h4
              exact ⟨by omega, h2, h3, h4, h5⟩)
          rcases sg_ways s1 k (pwI 64 s0) with ⟨g1, g2, g3, g4, g5, g6⟩ | ⟨g1, _, _⟩
          · have HV : Hid (cmE s1 k (pwI 64 s0) = 0 ∧ cmV s1 k (pwI 64 s0) = (pwI 64 s0, sgP s1 k (pwI 64 s0), sgA s1 k (pwI 64 s0))) := Lib.hid (by
              have e : cmE s1 k (pwI 64 s0) = 0 := by unfold cmE; rw [hin, if_pos rfl, g1]
              exact ⟨e, by unfold cmV; rw [if_pos e]⟩)
            have HR := Lib.hid (made_right HK.out.2.2.2.1 g1)
            have HI := Lib.hid hin
            clear g1 g2 g3 g4 g5 g6 hin
            obtain ⟨P0, hP0⟩ : ∃ P, pwI 64 s0 = P := ⟨_, rfl⟩
            obtain ⟨P1, hP1⟩ : ∃ P, sgP s1 k (pwI 64 s0) = P := ⟨_, rfl⟩
            obtain ⟨P2, hP2⟩ : ∃ P, sgA s1 k (pwI 64 s0) = P := ⟨_, rfl⟩
            rw [hP1, hP2] at HV HR
            rw [hP0] at HV HR HI
            have HP0 := Lib.hid hP0
            refine (certMake_any s1 k _ _).mono ?_
            rw [hP0]
            rintro e w2 ⟨he, hb2⟩
            obtain rfl := he _ HV.out.2.symm
            rw [HV.out.1]
            clear he hP1 hP2
            simp only
            have hcl := HC.out.len
            have hCA : CellsAt ((w2.alloc (.cells #[.int .i64 P0, .int .i64 P1, .int .i64 P2] 60)).alloc (.cells (certCells [(P0, P1, P2)]).toArray 60)) (some ⟨w2.heap.size + 1, 0, none⟩) (certCells [(P0, P1, P2)]) := by
              have h := CellsAt.new_ (w2.alloc (.cells #[.int .i64 P0, .int .i64 P1, .int .i64 P2] 60)) 60 (certCells [(P0, P1, P2)]) (0, 0)
              have e : (w2.alloc (.cells #[.int .i64 P0, .int .i64 P1, .int .i64 P2] 60)).heap.size = w2.heap.size + 1 := by simp
              rw [e] at h
              exact h
            have HCA := Lib.hid hCA
            clear hCA hP0
            have hw2 : W.heap.size ≤ w2.heap.size := (grow_step hb hb2).size
            have hbw2 : Below W.heap.size W ((w2.alloc (.cells #[.int .i64 P0, .int .i64 P1, .int .i64 P2] 60)).alloc (.cells (certCells [(P0, P1, P2)]).toArray 60)) := grow_alloc (grow_alloc (grow_step hb hb2) _) _
            have HO1 := Lib.hid ((HO.out.below hb2).below (grow_alloc (grow_alloc (grow_refl w2) (.cells #[.int .i64 P0, .int .i64 P1, .int .i64 P2] 60)) (.cells (certCells [(P0, P1, P2)]).toArray 60)))
            go_wp2_with (at_builtin; refine app_cells rfl _ _ 58 60 rfl Tryd.underlying58 infoCert (by decide) (by decide) W.heap.size A1 c1 cs.length (certCells cs) rfl HO1.out (some ⟨w2.heap.size + 1, 0, none⟩) 1 1 (certCells [(P0, P1, P2)]) rfl HCA.out (by simp [certCells]) (certCells_one _) (by omega) (by omega) (by simp; omega) ?_; intro A2 c2 k2 w4 hk2 ho2 hb4)
            have hb5 : Below W.heap.size W w4 := hbw2.trans hb4
            have HCh : Hid (Chain ss (cs ++ [(P0, P1, P2)]) (m + 1 + 1) f P0) := Lib.hid (Or.inr ⟨by omega, by rw [List.length_append, HK.out.1]; rfl, HK.out.2.1, by rw [show m + 1 + 1 - 1 = m + 1 from by omega, HS0.out, HP0.out], by rw [show m + 1 + 1 - 1 = m + 1 from by omega, HS0.out]; exact HX.out, lastGo_snoc f _ _ _ cs z HK.out.2.2.2.2 HI.out (by rw [HK.out.2.2.1]; exact HR.out)⟩)
            have HO2 : Hid (OwnC w4 W.heap.size 60 3 A2 c2 k2 (certCells (cs ++ [(P0, P1, P2)]))) := Lib.hid (by rw [certCells_append]; exact ho2)
            clear ho2 hb4
            go_roundw
            case rel => exact ⟨A2, c2, k2, m + 1 + 1, _, f, P0, rfl, rfl, by go_num, by omega, Lib.hid (by rw [hk2.out, List.length_append]; rfl), HO2, HCh, hb5⟩
            case measure => simp [intOf]; omega
          · have HV : Hid (cmE s1 k (pwI 64 s0) = 1) := Lib.hid (by unfold cmE; rw [hin, if_pos rfl, g1])
            clear g1 hin
            refine (certMake_any s1 k _ _).mono ?_
            rintro e w2 ⟨he, hb2⟩
            obtain rfl := he _ rfl
            rw [HV.out]
            clear he
            go_wp2_with fail
            go_ret
            exact ⟨rfl, grow_step HB0.out (grow_alloc (grow_step hb hb2) _)⟩
    · have g0 : ¬ (j : Int) < (ss.length : Int) := by omega
      obtain ⟨m, hm⟩ : ∃ m, ss.length = m + 1 := ⟨ss.length - 1, by omega⟩
      have hcx0 := (HS.out.below hb) m (by omega)
      obtain ⟨b0, off, rfl, hbl, hcx⟩ := hcx0
      obtain ⟨s0, hs0⟩ : ∃ s0, ss.getD m 0 = s0 := ⟨_, rfl⟩
      rw [hs0] at hcx
      have HK : Hid (okIn f = true ∧ certLast f cs = (pwI 64 s0, 0) ∧ okSecret s0 = true) := Lib.hid (by
        have hj2 : j = m + 1 := by omega
        rcases HC.out with ⟨h, _⟩ | ⟨_, h1, h2, h3, h4, h5⟩
        · exact absurd h (by omega)
        · have e1 : j - 1 = m := by omega
          rw [e1, hs0] at h3 h4
          refine ⟨h2, ?_, h4⟩
          unfold certLast
          rw [if_neg (by omega), if_pos h2, h5, h3])
      have HCA := Lib.hid (CertsAt.of_cells HO.out.cells)
      have hcs : cs.length ≤ 100 := by have := HC.out.len; omega
      have hmm : ((ss.length : Nat) : Int) = (m : Int) + 1 := by omega
      have cF := (HF.out.below hb).cell
      have lF := (HF.out.below hb).lt
      clear hs0 HO HC hlt hj
      rw [hmm]
      rw [hmm] at g0
      go_wp2_with fail
      clear cF lF
      by_cases hi : imgE n v c = 0
      rotate_left
      · have HI := Lib.hid hi
        obtain ⟨E, hE⟩ : ∃ E, imgE n v c = E := ⟨_, rfl⟩
        have HE := Lib.hid hE
        have t : (E != 0) = true := by rw [← hE]; simp [hi]
        clear hE hi
        refine (signMake_no s0 k n v c _ (by omega) (by omega) HI.out).mono ?_
        rintro e w2 ⟨rfl, hb2⟩
        rw [HE.out]
        go_wp2_with fail
        go_ret
        exact ⟨rfl, grow_step HB0.out (grow_alloc (grow_step hb hb2) _)⟩
      cases hk : okSecret k
      · refine (signMake_bad s0 k n v c _ (by omega) (by omega) hi (by rw [hk, Bool.and_false]) (HT.out.below hb)).mono ?_
        rintro e w2 ⟨rfl, hb2⟩
        go_wp2_with fail
        go_ret
        exact ⟨rfl, grow_step HB0.out (grow_alloc (grow_step hb hb2) _)⟩
      obtain ⟨MM, hMM⟩ : ∃ MM, imgM n v c = MM := ⟨_, rfl⟩
      obtain ⟨S1, hS1⟩ : ∃ S, pwI 64 k = S := ⟨_, rfl⟩
      obtain ⟨S2, hS2⟩ : ∃ S, sealA s0 k MM = S := ⟨_, rfl⟩
      have HSG : Hid (∀ y, imgE n y c = 0 → signE (pwI 64 s0) n y c S1 (sealA s0 k (imgM n y c)) = 0) := Lib.hid (fun y hy => by rw [← hS1]; exact signE_own HK.out.2.2 hk hy)
      have HI := Lib.hid hi
      have HKK := Lib.hid hk
      have iS1 : I64 S1 := by rw [← hS1]; have := okIn_yes (okIn_own hk); exact ⟨by omega, by omega⟩
      have iS2 : ∀ M, I64 (sealA s0 k M) := fun M => by have := sealA_bd s0 k M; exact ⟨by omega, by omega⟩
      have HIS := Lib.hid iS1
      have HIA := Lib.hid iS2
      have iSS : I64 S2 := by rw [← hS2]; exact iS2 MM
      have HISS := Lib.hid iSS
      have HMK := Lib.hid (fun w ht => signMake_yes s0 k n v c MM w (by omega) (by omega) hi hMM HK.out.2.2 hk ht)
      rw [hS1, hS2] at HMK
      have HS1 := Lib.hid hS1
      clear hMM hS1 hS2 hi hk iS1 iS2 iSS
      refine (HMK.out _ (HT.out.below hb)).mono ?_
      rintro e w2 ⟨rfl, hb2⟩
      have hb2a : Below W.heap.size W (w2.alloc (.cells #[.string n, .int .i64 v, .string c, .int .i64 S1, .int .i64 S2] 34)) := grow_alloc (grow_step hb hb2) _
      have HCA2 := Lib.hid (HCA.out.below (grow_alloc hb2 (.cells #[.string n, .int .i64 v, .string c, .int .i64 S1, .int .i64 S2] 34)))
      have HZ := Lib.hid (Box.new w2 34 #[.string n, .int .i64 v, .string c, .int .i64 S1, .int .i64 S2])
      have cZ := HZ.out.cell
      have lZ := HZ.out.lt
      clear hb2 HMK HCA
      go_wp2_with fail
      clear cZ lZ
      cases hx : okSecret x
      · have hxx := okSecret_no hx
        refine (devNew_key f x n v c S1 S2 _ (Or.inr hx)).mono ?_
        rintro e w3 ⟨rfl, hb3⟩
        clear hx
        by_cases c1 : x < 1
        · go_wp2_with fail
          go_ret
          exact ⟨rfl, grow_step HB0.out (grow_step hb2a hb3)⟩
        · have c2 : 256 < x := by omega
          go_wp2_with fail
          go_ret
          exact ⟨rfl, grow_step HB0.out (grow_step hb2a hb3)⟩
      refine (dNew_on f x n v c S1 S2 _ HK.out.1 hx hn hc HI.out).mono ?_
      rintro e w3 ⟨gd, b, gs, rfl, hD3, hgs, hb3⟩
      obtain ⟨W2, hW2⟩ : ∃ W2, w2.alloc (.cells #[.string n, .int .i64 v, .string c, .int .i64 S1, .int .i64 S2] 34) = W2 := ⟨_, rfl⟩
      rw [hW2] at hb2a HCA2 hgs hb3
      clear hW2 hx HZ
      have HTC : Hid (Tch W2 w3 gd gs b f x 0 false n v c S1 S2 [] none) := Lib.hid ⟨hD3 noX2, HI.out, Or.inl rfl, by show (0 : Int) ≤ v; have := (imgE_zero HI.out).2; omega, HIS.out, HISS.out, hb3⟩
      have cF := (HF.out.below (grow_step hb2a hb3)).cell
      have lF := (HF.out.below (grow_step hb2a hb3)).lt
      have HG2 := Lib.hid (HG.out.below hb2a)
      have HT2 := Lib.hid (HT.out.below hb2a)
      have HL2 := Lib.hid (HL.out.below hb2a)
      have HF2 := Lib.hid (HF.out.below hb2a)
      have HB2 := Lib.hid (grow_step HB0.out hb2a)
      have hgw : w.heap.size < gs := by have := hb2a.size; omega
      have HWg := Lib.hid hgs
      clear hD3 hb3 hb hb2a hbl HG HT HL HF HB0 HISS hcx hb1
      go_wp2_with fail
      clear cF lF
      go_loopw [22, 23, 24, 25, 26, 27, 28, 29, 30] (fun gd_ i _ _ _ _ _ _ _ wr => ∃ (kk nb : Nat) (gv : Int) (r : Bool) (sa : Int) (ls : List Cnt) (o : Option Im), kk ≤ l.length ∧ nb ≤ kk ∧ gd_ = .int .i64 gv ∧ i = .int .i64 kk ∧ Hid (Tch W2 wr gd gs b f x nb r n gv c S1 sa ls o)) (fun _ i _ _ _ _ _ _ _ _ => l.length - (intOf i).toNat)
      case atStart => exact ⟨0, 0, v, false, S2, [], none, by omega, by omega, rfl, rfl, HTC⟩
      case round =>
        clear HTC
        obtain ⟨kk, nb, gv, r, sa, ls, o, hkk, hnb, rfl, rfl, HP⟩ := hrel
        by_cases hlt : kk < l.length
        · have q0 : (kk : Int) < (l.length : Int) := by omega
          by_cases h12 : kk < 12
          · have q1 : (kk : Int) < 12 := by omega
            obtain ⟨y, hy⟩ : ∃ y, l.getD kk 0 = y := ⟨_, rfl⟩
            have iy : I64 y := by rw [← hy]; exact HLI.out kk hlt
            obtain ⟨bb, off2, rfl, hbb, hcy⟩ := (HL2.out.below HP.out.bel) kk hlt
            rw [hy] at hcy
            have cF := (HF2.out.below HP.out.bel).cell
            have lF := (HF2.out.below HP.out.bel).lt
            have lF3 : w.heap.size < wr.heap.size := lF
            clear hy
            go_wp2_with fail
            clear cF lF hcy
            have HBM := Lib.hid (Box.new wr 24 #[.string n, .int .i64 y, .string c])
            have hba : Below wr.heap.size wr (wr.alloc (.cells #[.string n, .int .i64 y, .string c] 24)) := grow_alloc (grow_refl _) _
            by_cases hiy : imgE n y c = 0
            rotate_left
            · have HIY := Lib.hid hiy
              obtain ⟨E, hE⟩ : ∃ E, imgE n y c = E := ⟨_, rfl⟩
              have HE := Lib.hid hE
              have t : (E != 0) = true := by rw [← hE]; simp [hiy]
              clear hE hiy
              refine (signMake_no s0 k n y c _ (by omega) (by omega) HIY.out).mono ?_
              rintro e w4 ⟨rfl, hb4⟩
              rw [HE.out]
              have hD4 := (HP.out.dev.below (grow_step hba hb4)).below (grow_alloc (grow_refl _) (.cells #[.string ⟨#[]⟩, .int .i64 0, .string ⟨#[]⟩, .int .i64 0, .int .i64 0] 34))
              have hB4 := grow_alloc (grow_step (grow_step HP.out.bel hba) hb4) (.cells #[.string ⟨#[]⟩, .int .i64 0, .string ⟨#[]⟩, .int .i64 0, .int .i64 0] 34)
              have HP4 := Lib.hid (⟨hD4, HP.out.ok, HP.out.lsn, HP.out.ofl, HP.out.ip, HP.out.ia, hB4⟩ : Tch W2 _ gd gs b f x nb r n gv c S1 sa ls o)
              clear hb4 hD4 hB4
              go_wp2_with fail
              go_roundw
              case rel => exact ⟨kk + 1, nb, gv, r, sa, ls, o, by omega, by omega, rfl, by go_num, HP4⟩
              case measure => simp [intOf]; omega
            obtain ⟨MM2, hMM2⟩ : ∃ MM, imgM n y c = MM := ⟨_, rfl⟩
            obtain ⟨S3, hS3⟩ : ∃ S, sealA s0 k MM2 = S := ⟨_, rfl⟩
            have HMK := Lib.hid (fun w ht => signMake_yes s0 k n y c MM2 w (by omega) (by omega) hiy hMM2 HK.out.2.2 HKK.out ht)
            rw [HS1.out, hS3] at HMK
            have hsgn := HSG.out y hiy
            rw [hMM2, hS3] at hsgn
            have i3 : I64 S3 := by rw [← hS3]; exact HIA.out MM2
            have HIY := Lib.hid hiy
            have HDO := Lib.hid (do_oneS (root := f) (Q := pwI 64 s0) (cs := cs) (ls := ls) (r := r) (n := n) (v := gv) (c := c) (p := S1) (a := sa) (v' := y) (p' := S1) (a' := S3) HK.out.2.1 HP.out.ok hiy hsgn HP.out.ofl)
            have HIV := Lib.hid (Inv.oneS hn hc (show I64 gv from by have := (imgE_zero HP.out.ok).2; exact ⟨by omega, by omega⟩) HIS.out HP.out.ia r)
            have HI3 := Lib.hid i3
            clear hMM2 hS3 hsgn hiy i3
            refine (HMK.out _ (HT2.out.below (grow_step HP.out.bel hba))).mono ?_
            rintro e w4 ⟨rfl, hb4⟩
            have hbb4 := grow_alloc (grow_step hba hb4) (.cells #[.string n, .int .i64 y, .string c, .int .i64 S1, .int .i64 S3] 34)
            have HD4 := Lib.hid (HP.out.dev.below hbb4)
            have hB4 := grow_step HP.out.bel hbb4
            have HBM4 := Lib.hid ((HBM.out.below hb4).alloc_ (.cells #[.string n, .int .i64 y, .string c, .int .i64 S1, .int .i64 S3] 34))
            have HZ4 := Lib.hid (Box.new w4 34 #[.string n, .int .i64 y, .string c, .int .i64 S1, .int .i64 S3])
            have hgs : gs < wr.heap.size ∧ gd < wr.heap.size ∧ b < wr.heap.size ∧ gs < b ∧ b < gd := by have h1 := HP.out.dev.lt1; have h2 := HP.out.dev.lt2; have h3 := HP.out.dev.lt3; omega
            have hWg : W2.heap.size ≤ gs := HWg.out
            have cZ := HZ4.out.cell
            have lZ := HZ4.out.lt
            clear hb4 HBM hbb4 HMK hba
            go_wp2_with fail
            clear cZ lZ HZ4
            refine (dUpdate_any _ gd gs b f x nb _ ls o noX2 HD4.out HIV.out A1 c1 cs n y c S1 S3 (HCA2.out.below hB4) (by omega) hn hc (HT2.out.below hB4) (fun _ h => h.elim)).mono ?_
            rintro e w5 ⟨rfl, hD5, hk5⟩
            rw [HDO.out.1]
            rw [HDO.out.2] at hD5
            have hB5 := hB4.trans (hk5.below hB4.size (by intro j h; omega))
            have HBM5 := Lib.hid (HBM4.out.but hk5 (by intro h; omega))
            have hs5 := hk5.size
            clear hk5 HBM4 HD4 hB4
            by_cases hv : gv < y
            · rw [if_pos hv] at hD5
              rw [if_pos hv]
              have HK5 : Hid (KeepT W2 wr.heap.size #[.string n, .int .i64 y, .string c] gd gs b f x nb (twoS r n gv c S1 sa n y c S1 S3) ls o w5.drew) := Lib.hid ⟨HBM5.out.drew_, hD5.below (grow_drew (grow_refl _)), grow_drew hB5⟩
              clear hD5 hB5 HBM5
              go_wp2_with fail
              refine region_quiet (fun w' => KeepT W2 wr.heap.size #[.string n, .int .i64 y, .string c] gd gs b f x nb (twoS r n gv c S1 sa n y c S1 S3) ls o w') (by kernel_rfl) (by kernel_rfl) HK5.out ?_
              repeat (go_big_quiet_step (first
                | (intro hC; rfl)
                | (intro hC; have e1 := hC.1.cell; simp only [e1]; rfl)
                | (intro hC; have e1 := hC.1.cell; simp [e1]; try rfl)))
              refine wpQuiet_nil ?_
              intro w6 E6
              have HK6 := Lib.hid E6
              clear E6 HK5
              have hI2 := HIV.out.doS f cs ls (z := (n, y, c, S1, S3)) hn hc iy HIS.out HI3.out
              rw [HDO.out.2, if_pos hv] at hI2
              have HCS := Lib.hid (fun w_ h hb => dStart_any w_ gd gs b f x nb (twoS r n gv c S1 sa n y c S1 S3) ls o noX2 h hI2 W2 hb hWg (by rw [twoS_pick, twoS_at]; exact HIY.out) HT2.out (fun _ h => h.elim))
              rw [twoS_pick, twoS_safe, twoS_at, twoS_start, rI_not] at HCS
              simp only at HCS
              have hls := HP.out.lsn.raise HIY.out rfl
              have hdg : dgE (triS r n gv c S1 sa n y c S1 S3) ls n y = 0 := by unfold dgE; rw [triS_g]; exact hls.1
              have hdl : dgL (triS r n gv c S1 sa n y c S1 S3) ls n y = raiseL ls n y := by unfold dgL; rw [triS_g]; rfl
              have HCG := Lib.hid (fun w_ h => dGood_on w_ gd gs b f x nb (triS r n gv c S1 sa n y c S1 S3) ls (some (n, y, c)) noX2 h n y c rfl (by omega) HP.out.lsn.len hn)
              rw [hdg, hdl, triS_good] at HCG
              have HLS := Lib.hid hls.2
              have HOF := Lib.hid (raise_oneS HP.out.lsn HIY.out rfl HP.out.ofl hv)
              clear hI2 hls hdg hdl
              go_wp2_with fail
              refine (HCS.out _ HK6.out.2.1 HK6.out.2.2).mono ?_
              rintro e w7 ⟨rfl, hD7, hk7⟩
              have hB7 := HK6.out.2.2.trans (hk7.below HK6.out.2.2.size (by intro j h; rcases h with h | h <;> omega))
              have HBM7 := Lib.hid (HK6.out.1.but hk7 (by intro h; rcases h with h | h <;> omega))
              have HD7 := Lib.hid hD7
              clear hD7 hk7 HK6
              go_wp2_with fail
              refine (HCG.out _ HD7.out).mono ?_
              rintro e w8 ⟨rfl, ⟨n', hn', hD8⟩, hk8⟩
              have hB8 := hB7.trans (hk8.below hB7.size (by intro j h; rcases h with h | h <;> omega))
              have HBM8 := Lib.hid (HBM7.out.but hk8 (by intro h; rcases h with h | h <;> omega))
              have HD8 := Lib.hid hD8
              have cM := HBM8.out.cell
              have lM := HBM8.out.lt
              clear hD8 hk8 HD7 hB7 HBM7
              go_wp2_with fail
              clear cM lM
              refine (dRuns_on _ gd gs b f x n' _ _ _ noX2 HD8.out n y c rfl).mono ?_
              rintro e w9 ⟨rfl, hb9⟩
              have hb9a := grow_alloc hb9 (.cells #[.string n, .int .i64 y, .string c] 24)
              have HP9 := Lib.hid (⟨HD8.out.below hb9a, HIY.out, HLS.out, HOF.out, HIS.out, HI3.out, grow_step hB8 hb9a⟩ : Tch W2 _ gd gs b f x n' (!r) n y c S1 S3 (raiseL ls n y) (some (n, y, c)))
              clear hb9 hb9a HD8 hB8 HBM8
              go_wp2_with fail
              go_roundw
              case rel => exact ⟨kk + 1, n', y, !r, S3, _, _, by omega, by omega, by first | rfl | simp, by go_num, HP9⟩
              case measure => simp [intOf]; omega
            · rw [if_neg hv] at hD5
              rw [if_neg hv]
              have hvd : decide (gv < y) = false := by simp; omega
              have hvd2 : decide (y > gv) = false := hvd
              have HK5 : Hid (KeepT W2 wr.heap.size #[.string n, .int .i64 y, .string c] gd gs b f x nb (oneS r n gv c S1 sa) ls o w5.drew) := Lib.hid ⟨HBM5.out.drew_, hD5.below (grow_drew (grow_refl _)), grow_drew hB5⟩
              have HEC := Lib.hid (fun w_ h => error_any 9 9 w_ h (i64_small (by decide) (by decide)))
              rw [show ((9 : Int) == 9) = true from rfl] at HEC
              clear hD5 hB5 HBM5
              go_wp2_with fail
              refine region_quiet (fun w' => KeepT W2 wr.heap.size #[.string n, .int .i64 y, .string c] gd gs b f x nb (oneS r n gv c S1 sa) ls o w') (by kernel_rfl) (by kernel_rfl) HK5.out ?_
              repeat (go_big_quiet_step (first
                | (intro hC; rfl)
                | (intro hC; go_at_call 19; exact quiet_class (HEC.out _ (HG2.out.below hC.2.2)) (fun w' hb => hC.below hb))
                | (intro hC; have e1 := hC.1.cell; simp only [e1]; rfl)
                | (intro hC; have e1 := hC.1.cell; simp [e1]; try rfl)))
              refine wpQuiet_nil ?_
              intro w6 E6
              have HK6 := Lib.hid E6
              clear E6 HK5
              have HCS := Lib.hid (fun w_ h hb => dStart_any w_ gd gs b f x nb (oneS r n gv c S1 sa) ls o noX2 h HIV.out W2 hb hWg (by rw [oneS_pick, oneS_at]; exact HP.out.ok) HT2.out (fun _ h => h.elim))
              rw [oneS_pick, oneS_safe, oneS_at, oneS_start, rI_same] at HCS
              simp only at HCS
              go_wp2_with fail
              refine (HCS.out _ HK6.out.2.1 HK6.out.2.2).mono ?_
              rintro e w7 ⟨rfl, hD7, hk7⟩
              have hB7 := HK6.out.2.2.trans (hk7.below HK6.out.2.2.size (by intro j h; rcases h with h | h <;> omega))
              have HD7 := Lib.hid hD7
              clear hD7 hk7 HK6
              go_wp2_with fail
              refine (dRuns_on _ gd gs b f x nb _ _ _ noX2 HD7.out n gv c rfl).mono ?_
              rintro e w9 ⟨rfl, hb9⟩
              have hb9a := grow_alloc hb9 (.cells #[.string n, .int .i64 gv, .string c] 24)
              have HP9 := Lib.hid (⟨HD7.out.below hb9a, HP.out.ok, HP.out.lsn, HP.out.ofl, HP.out.ip, HP.out.ia, grow_step hB7 hb9a⟩ : Tch W2 _ gd gs b f x nb r n gv c S1 sa ls (some (n, gv, c)))
              clear hb9 hb9a HD7 hB7
              go_wp2_with fail
              go_roundw
              case rel => exact ⟨kk + 1, nb, gv, r, sa, _, _, by omega, by omega, by first | rfl | simp, by go_num, HP9⟩
              case measure => simp [intOf]; omega
          · have q1 : ¬ (kk : Int) < 12 := by omega
            go_wp2_with fail
            go_ret
            exact ⟨rfl, grow_step HB2.out HP.out.bel⟩
        · have q0 : ¬ (kk : Int) < (l.length : Int) := by omega
          go_wp2_with fail
          go_ret
          exact ⟨rfl, grow_step HB2.out HP.out.bel⟩

set_option maxRecDepth 100000 in
theorem topChain_walks (H : Type) (enc : TypeId × Value → H) : WalksD enc Tryd.prog TabTD 4 Tryd.f4 := by
  intro W base args ds p hval hA hlt hsz hsh hdoor
  have hsz0 := hsz
  rw [Tryd.params4] at hA hval
  obtain ⟨v0, vs0, d0, ds0, p0, q0, hargs, rfl, rfl, h0, r0⟩ := trodAll_cons hA
  obtain ⟨v1, vs1, d1, ds1, p1, q1, rfl, rfl, rfl, h1, r1⟩ := trodAll_cons r0
  obtain ⟨v2, vs2, d2, ds2, p2, q2, rfl, rfl, rfl, h2, r2⟩ := trodAll_cons r1
  obtain ⟨v3, vs3, d3, ds3, p3, q3, rfl, rfl, rfl, h3, r3⟩ := trodAll_cons r2
  obtain ⟨v4, vs4, d4, ds4, p4, q4, rfl, rfl, rfl, h4, r4⟩ := trodAll_cons r3
  obtain ⟨rfl, rfl, rfl⟩ := trodAll_nil r4
  obtain rfl : args = #[v0, v1, v2, v3, v4] := by cases args; simp_all
  obtain ⟨A0, a0, c0, rfl, w0, i0, z0⟩ := op_ints (hval 0 43 v0 rfl rfl) h0 (fun x hx => hlt x (by simp [hx])) (w_each hsz 0 43 _ (by rw [Tryd.params4]; rfl) rfl)
  obtain ⟨a1, rfl, w1⟩ := op_int (hval 1 3 v1 rfl rfl) h1
  obtain ⟨a2, rfl, w2⟩ := op_int (hval 2 3 v2 rfl rfl) h2
  obtain ⟨a3, b3, c3, rfl, w3, u3, z3⟩ := op_image (hval 3 24 v3 rfl rfl) h3 (w_each hsz 3 24 _ (by rw [Tryd.params4]; rfl) rfl)
  obtain ⟨A4, a4, c4, rfl, w4, i4, z4⟩ := op_ints (hval 4 43 v4 rfl rfl) h4 (fun x hx => hlt x (by simp [hx])) (w_each hsz 4 43 _ (by rw [Tryd.params4]; rfl) rfl)
  exact topChain_walk W A0 a0 c0 a1 a2 a3 b3 c3 A4 a4 c4 w0 i0 z0 w1 w2 w3 u3 z3 w4 i4 z4 hdoor

set_option maxRecDepth 100000 in
theorem topChain_lifted (os : Os) (started : os.Started) (H : Type) (enc : TypeId × Value → H) :
    ReturnsInHanded {} Tryd.checked os 4 .any (fun w args => (Rows.topChainSpec.pre enc Tryd.checked.prog Tryd.f4 [] false w args ∧ laidMetH Tryd.checked.prog LaidTD w) ∧ sizedMet enc Tryd.checked.prog Tryd.f4 (OpenSpec.ofChange Rows.topChainSpec) false w args) (Rows.topChainSpec.post enc Tryd.checked.prog Tryd.f4 false true false false) :=
  returns_of_walkD (C := Tryd.checked) (s := Rows.topChainSpec) (L := LaidTD) (D := TabTD) own started (by kernel_rfl) Tryd.func4
    (ChangeSpec.witness_at (enc := enc) (C := Tryd.checked) (os := os) (X := fun w _ => laidMetH Tryd.prog LaidTD w) false (laidWorldTD os) #[.slice none 0 0, .int .i64 0, .int .i64 0, .agg #[.string ⟨#[]⟩, .int .i64 0, .string ⟨#[]⟩], .slice none 0 0] 8 rfl (by kernel_rfl) (by kernel_rfl) (by kernel_rfl) (by kernel_rfl) (by kernel_rfl) (laidWorldTD_met os _))
    (fun W h => tabTD_of_laid h) laidOut (by kernel_rfl) rfl Tryd.underlying4 rfl (fun ds h => by match ds, h with | [_, _, _, _, _], _ => rfl) (topChain_walks H enc)

theorem topChain_bare : Rows.TopChainSaid :=
  OpenClaim.holds_of_wide 4 Tryd.f4 rfl rfl rfl rfl rfl rfl rfl ⟨rfl, rfl, rfl, rfl, rfl⟩ rfl rfl rfl rfl rfl (by kernel_rfl) Tryd.func4 (by kernel_rfl)
    (of_decide_eq_true (by kernel_rfl)) (by unfold Func.isWrapper; rw [if_neg (of_decide_eq_false (by kernel_rfl))]; exact ⟨rfl, rfl⟩)
    (fun os started H enc _ => topChain_lifted os started H enc)

theorem topChain_holds : Rows.TopChainCardSaid :=
  Claim7.holds_tied_plain_at .later [] [.data, .data, .data, .handle] true Rows.topChainCard.stood.harness true
    topChain_bare (fun _ h => by cases h) (by kernel_rfl) (fun _ h => by cases h) topChain_row_tie rfl ⟨rfl, rfl⟩ (by kernel_rfl) rfl
    (fun f fn hf hfn => by
      obtain rfl : f = 4 := Option.some.inj ((show Tryd.prog.funcNamed "bootstair/stairtop.TopChain" = some 4 by kernel_rfl).symm.trans hf) |>.symm
      obtain rfl : fn = Tryd.f4 := (Option.some.inj (Tryd.func4.symm.trans hfn)).symm
      exact ⟨by kernel_rfl, fun j t ht => by
        have hm : t ∈ Tryd.f4.params.toList := by simpa using Array.mem_of_getElem? ht
        have hall : (Tryd.f4.params.toList.all fun u => !Tryd.prog.wantsStandIn u) = true := by kernel_rfl
        exact (show Tryd.prog.wantsStandIn t = false by simpa using List.all_eq_true.1 hall t hm)⟩)
    (by kernel_rfl)

end Go.Proofs.YtdedllfgeekogaaDoor
