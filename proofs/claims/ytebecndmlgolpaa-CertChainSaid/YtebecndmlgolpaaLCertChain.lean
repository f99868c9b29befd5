/- CertChain: a chain that is made is right, and may be cut anywhere. DRAFT, not built clean. -/
import Derived.Test.YtebecndmlgolpaaRows
import Derived.Test.YtebecndmlgolpaaOpen
import Derived.Test.YtebecndmlgolpaaOpC
import Derived.Test.YtebecndmlgolpaaCert2
import Derived.Test.YtebecndmlgolpaaCcPlain
import Derived.Test.YtebecndmlgolpaaBds
import Derived.WalkKit
import Derived.Lib.Hide
import Derived.Deep.CutBlock
import Derived.Deep.CutRange
namespace Go.Proofs.Ytebecndmlgolpaa
open Go.ChangeShapes Go.WideShapes Go.ChangeAt Go.RowKit
set_option linter.unusedVariables false
set_option maxRecDepth 100000

theorem infoCert : (Try.prog.info? 32).map (fun i => (i.zero, i.size, i.bytes)) = some (some (.agg #[.int .i64 0, .int .i64 0, .int .i64 0]), 3, 24) := by kernel_rfl
theorem last_nil : certLast 64 [] = (64, 0) := by decide
theorem last_len (root : Int) (A : Option Addr) (c k : Nat) (cs : List (Int × Int × Int)) (w : World) (hk : k = cs.length) (hA : CertsAt w A cs) (hbig : cs.length ≤ 9223372036854775807) :
    Calls Try.prog 8 #[.int .i64 root, .slice A k c] w fun e w' => e = .returned (.tuple #[.int .i64 (certLast root cs).1, errV (certLast root cs).2]) ∧ Below w.heap.size w w' := by
  subst hk; exact last_any root A c cs w hA hbig
/-- What the rounds have done: j of them. -/
def Chain (ss : List Int) (cs : List (Int × Int × Int)) (j : Nat) (f l : Int) : Prop :=
  (j = 0 ∧ cs = [] ∧ f = 0 ∧ l = 0) ∨ (0 < j ∧ cs.length + 1 = j ∧ okIn f = true ∧ l = pwI 64 (ss.getD (j - 1) 0) ∧ okSecret (ss.getD (j - 1) 0) = true ∧ lastGo f cs = (l, 0))

theorem CertsAt.dropA {w : World} {A : Option Addr} {cs : List (Int × Int × Int)} (h : CertsAt w A cs) (q : Nat) : CertsAt w (A.map fun x => x.add (q * 3)) (cs.drop q) := by
  rcases Nat.eq_zero_or_pos cs.length with h0 | h0
  · rw [List.drop_eq_nil_of_le (by omega)]; exact CertsAt.nil_ _ _
  · obtain ⟨b, off, rfl, _, _⟩ := h 0 h0
    have e : (⟨b, off, none⟩ : Addr).add (q * 3) = ⟨b, off + q * 3, none⟩ := by unfold Addr.add; split <;> simp_all
    rw [Option.map_some, e]
    exact h.drop_ q
theorem Chain.found {ss : List Int} {cs : List (Int × Int × Int)} {j : Nat} {f l : Int} (h : Chain ss cs j f l) : f = 0 ∨ okIn f = true ∧ lastGo f cs = (l, 0) := by
  rcases h with ⟨_, _, h, _⟩ | ⟨_, _, h1, _, _, h2⟩
  · exact Or.inl h
  · exact Or.inr ⟨h1, h2⟩
theorem Chain.len {ss : List Int} {cs : List (Int × Int × Int)} {j : Nat} {f l : Int} (h : Chain ss cs j f l) : cs.length ≤ j := by
  rcases h with ⟨_, rfl, _⟩ | ⟨_, h, _⟩
  · simp
  · omega

set_option maxHeartbeats 1000000 in
theorem certChain_walk (w : World) (S : Option Addr) (ss : List Int) (sc : Nat) (k root : Int) (A : Option Addr) (l : List (Int × Int × Int)) (c : Nat) (cut : Int)
    (hS : IntsAt w S ss) (hi : ∀ x ∈ ss, I64 x) (hl : ss.length * 8 ≤ 140737488351232) (ik : I64 k) (ir : I64 root) (hA : CertsAt w A l) (hz : l.length * 24 ≤ 140737488351232) (hc : l.length ≤ c) (icut : I64 cut) :
    Calls Try.prog 3 #[.slice S ss.length sc, .int .i64 k, .int .i64 root, .slice A l.length c, .int .i64 cut] w fun e w' => e = .returned (.bool true) ∧ Below w.heap.size w w' := by
  have en := fun k w => err_neq k w
  have ee := fun k w => err_eql k w
  have gn := fun o k w => err_guard_neq o k w
  have ge := fun o k w => err_guard_eql o k w
  have HS := Lib.hid hS
  have HA := Lib.hid hA
  have HN := Lib.hid last_nil
  clear hS hA
  go_enter Try.func3, Try.ntmps3
  go_wp2_with fail
  refine (last_any 64 none 0 [] _ (CertsAt.nil_ _ _) (by simp)).mono ?_
  rintro e w1 ⟨rfl, hb1⟩
  rw [HN.out]
  go_upto_block 0 with fail
  go_cut [13, 14, 15] from 16 to 85 (fun made first last wx => ∃ (A1 : Option Addr) (c1 n1 : Nat) (cs : List (Int × Int × Int)) (f z : Int), made = .slice A1 n1 c1 ∧ first = .int .i64 f ∧ last = .int .i64 z ∧ Hid (n1 = cs.length) ∧ cs.length ≤ 10 ∧ Hid (CertsAt wx A1 cs) ∧ Hid (f = 0 ∨ okIn f = true ∧ lastGo f cs = (z, 0)) ∧ Below w.heap.size w wx)
  case first =>
    go_wp2_with fail
    go_loopw [13, 14, 15, 16] (fun made first last i wr => ∃ (A1 : Option Addr) (c1 n1 j : Nat) (cs : List (Int × Int × Int)) (f z : Int), made = .slice A1 n1 c1 ∧ first = .int .i64 f ∧ last = .int .i64 z ∧ i = .int .i64 j ∧ j ≤ ss.length ∧ j ≤ 10 ∧ Hid (n1 = cs.length) ∧ Hid (OwnC wr w.heap.size 32 3 A1 c1 n1 (certCells cs)) ∧ Hid (Chain ss cs j f z) ∧ Below w.heap.size w wr) (fun _ _ _ i _ => ss.length - (intOf i).toNat)
    case atStart => exact ⟨none, 0, 0, 0, [], 0, 0, rfl, rfl, rfl, rfl, Nat.zero_le _, by omega, Lib.hid rfl, Lib.hid (OwnC.start _ _ _ _), Lib.hid (Or.inl ⟨rfl, rfl, rfl, rfl⟩), (by repeat (first | (with_reducible exact grow_refl _) | (with_reducible assumption) | (with_reducible refine grow_alloc ?_ _) | (with_reducible refine grow_set ?_ (by first | exact Nat.le_refl _ | (simp; done) | (simp; omega) | omega) _) | (with_reducible refine grow_drewN ?_ _) | (with_reducible refine grow_drew ?_) | (with_reducible refine grow_step ?_ (by assumption)) | (with_reducible refine grow_base ?_ (by assumption))))⟩
    case round =>
      obtain ⟨A1, c1, n1, j, cs, f, z, rfl, rfl, rfl, rfl, hj, hj10, HN1, HO, HC, hb⟩ := hrel
      obtain rfl := HN1.out
      by_cases hlt : j < ss.length
      · by_cases hlt10 : j < 10
        · obtain ⟨b0, off, rfl, hbl, hc⟩ := (HS.out.below hb) j hlt
          obtain ⟨s0, hs0⟩ : ∃ s0, ss.getD j 0 = s0 := ⟨_, rfl⟩
          rw [hs0] at hc
          have HS0 := Lib.hid hs0
          clear hs0
          cases hx : okSecret s0
          · have HP : Hid (pubM s0 = 0 ∧ pubE s0 = 1) := Lib.hid ⟨pubM_no hx, pubE_no hx⟩
            have HF := Lib.hid (HC.out.found)
            go_wp2_with (go_at_call 9; refine (public_any _ _).mono ?_; rintro e w' ⟨rfl, rfl⟩; rw [HP.out.1, HP.out.2])
            go_meet
            exact ⟨A1, c1, _, cs, f, z, rfl, rfl, rfl, Lib.hid rfl, by have := HC.out.len; omega, Lib.hid (CertsAt.of_cells HO.out.cells), HF, (by repeat (first | (with_reducible exact grow_refl _) | (with_reducible assumption) | (with_reducible refine grow_alloc ?_ _) | (with_reducible refine grow_set ?_ (by first | exact Nat.le_refl _ | (simp; done) | (simp; omega) | omega) _) | (with_reducible refine grow_drewN ?_ _) | (with_reducible refine grow_drew ?_) | (with_reducible refine grow_step ?_ (by assumption)) | (with_reducible refine grow_base ?_ (by assumption))))⟩
          · have HP : Hid (pubM s0 = pwI 64 s0 ∧ pubE s0 = 0) := Lib.hid ⟨pubM_yes hx, pubE_yes hx⟩
            have x1 := okSecret_yes hx
            have hin := key_in (x := s0) (by omega) (by omega)
            clear x1
            have HX := Lib.hid hx
            clear hx
            by_cases hj0 : j = 0
            · subst hj0
              rw [Nat.add_zero] at hc
              have HF : Hid (cs = [] ∧ Chain ss cs 1 (pwI 64 s0) (pwI 64 s0)) := Lib.hid (by
                rcases HC.out with ⟨_, rfl, _⟩ | ⟨h, _⟩
                · exact ⟨rfl, Or.inr ⟨by decide, rfl, hin, by rw [HS0.out], by rw [HS0.out]; exact HX.out, rfl⟩⟩
                · exact absurd h (by decide))
              clear hin
              go_wp2_with (go_at_call 9; refine (public_any _ _).mono ?_; rintro e w' ⟨rfl, rfl⟩; rw [HP.out.1, HP.out.2])
              go_roundw
              case rel => exact ⟨A1, c1, _, 1, cs, _, _, rfl, rfl, rfl, rfl, by omega, by omega, Lib.hid rfl, HO, Lib.hid HF.out.2, (by repeat (first | (with_reducible exact grow_refl _) | (with_reducible assumption) | (with_reducible refine grow_alloc ?_ _) | (with_reducible refine grow_set ?_ (by first | exact Nat.le_refl _ | (simp; done) | (simp; omega) | omega) _) | (with_reducible refine grow_drewN ?_ _) | (with_reducible refine grow_drew ?_) | (with_reducible refine grow_step ?_ (by assumption)) | (with_reducible refine grow_base ?_ (by assumption))))⟩
              case measure => simp [intOf]; omega
            · obtain ⟨n, rfl⟩ : ∃ n, j = n + 1 := ⟨j - 1, by omega⟩
              clear hj0
              obtain ⟨b0', off', e', _, hc2⟩ := (HS.out.below hb) n (by omega)
              injection e' with e'; injection e' with q1 q2; subst q1; subst q2
              obtain ⟨s1, hs1⟩ : ∃ s1, ss.getD n 0 = s1 := ⟨_, rfl⟩
              rw [hs1] at hc2
              have HS1 := Lib.hid hs1
              clear hs1
              go_wp2_with (first | (go_at_call 9; refine (public_any _ _).mono ?_; rintro e w' ⟨rfl, rfl⟩; rw [HP.out.1, HP.out.2]))
              have HK : Hid (cs.length = n ∧ okIn f = true ∧ z = pwI 64 s1 ∧ okSecret s1 = true ∧ lastGo f cs = (z, 0)) := Lib.hid (by
                rcases HC.out with ⟨h, _⟩ | ⟨_, h1, h2, h3, h4, h5⟩
                · exact absurd h (by omega)
                · have e1 : n + 1 - 1 = n := by omega
                  rw [e1, HS1.out] at h3 h4
                  exact ⟨by omega, h2, h3, h4, h5⟩)
              rcases sg_ways s1 k (pwI 64 s0) with ⟨g1, g2, g3, g4, g5, g6⟩ | ⟨g1, _, _⟩
              · have HV : Hid (cmE s1 k (pwI 64 s0) = 0 ∧ cmV s1 k (pwI 64 s0) = (pwI 64 s0, sgP s1 k (pwI 64 s0), sgA s1 k (pwI 64 s0))) := Lib.hid (by
                  have e : cmE s1 k (pwI 64 s0) = 0 := by unfold cmE; rw [hin, if_pos rfl, g1]
                  exact ⟨e, by unfold cmV; rw [if_pos e]⟩)
                have HR := Lib.hid (made_right HK.out.2.2.2.1 g1)
                have HI := Lib.hid hin
                clear g1 g2 g3 g4 g5 g6 hin
                refine (certMake_any s1 k _ _).mono ?_
                rintro e w2 ⟨he, hb2⟩
                obtain rfl := he _ HV.out.2.symm
                rw [HV.out.1]
                clear he
                simp only
                have hcl := HC.out.len
                have hCA : CellsAt ((w2.alloc (.cells #[.int .i64 (pwI 64 s0), .int .i64 (sgP s1 k (pwI 64 s0)), .int .i64 (sgA s1 k (pwI 64 s0))] 32)).alloc (.cells (certCells [(pwI 64 s0, sgP s1 k (pwI 64 s0), sgA s1 k (pwI 64 s0))]).toArray 32)) (some ⟨w2.heap.size + 1, 0, none⟩) (certCells [(pwI 64 s0, sgP s1 k (pwI 64 s0), sgA s1 k (pwI 64 s0))]) := by
                  have h := CellsAt.new_ (w2.alloc (.cells #[.int .i64 (pwI 64 s0), .int .i64 (sgP s1 k (pwI 64 s0)), .int .i64 (sgA s1 k (pwI 64 s0))] 32)) 32 (certCells [(pwI 64 s0, sgP s1 k (pwI 64 s0), sgA s1 k (pwI 64 s0))]) (0, 0)
                  have e : (w2.alloc (.cells #[.int .i64 (pwI 64 s0), .int .i64 (sgP s1 k (pwI 64 s0)), .int .i64 (sgA s1 k (pwI 64 s0))] 32)).heap.size = w2.heap.size + 1 := by simp
                  rw [e] at h
                  exact h
                have HCA := Lib.hid hCA
                clear hCA
                have hw2 : w.heap.size ≤ w2.heap.size := (grow_step hb hb2).size
                go_wp2_with (at_builtin; refine app_cells rfl _ _ 23 32 rfl Try.underlying23 infoCert (by decide) (by decide) w.heap.size A1 c1 cs.length (certCells cs) rfl (HO.out.below (by repeat (first | (with_reducible exact grow_refl _) | (with_reducible assumption) | (with_reducible refine grow_alloc ?_ _) | (with_reducible refine grow_set ?_ (by first | exact Nat.le_refl _ | (simp; done) | (simp; omega) | omega) _) | (with_reducible refine grow_drewN ?_ _) | (with_reducible refine grow_drew ?_) | (with_reducible refine grow_step ?_ (by assumption)) | (with_reducible refine grow_base ?_ (by assumption))))) (some ⟨w2.heap.size + 1, 0, none⟩) 1 1 (certCells [(pwI 64 s0, sgP s1 k (pwI 64 s0), sgA s1 k (pwI 64 s0))]) rfl HCA.out (by simp [certCells]) (certCells_one _) (by omega) (by omega) (by simp; omega) ?_; intro A2 c2 k2 w4 hk2 ho2 hb4)
                have hb5 : Below w.heap.size w w4 := grow_base (by repeat (first | (with_reducible exact grow_refl _) | (with_reducible assumption) | (with_reducible refine grow_alloc ?_ _) | (with_reducible refine grow_set ?_ (by first | exact Nat.le_refl _ | (simp; done) | (simp; omega) | omega) _) | (with_reducible refine grow_drewN ?_ _) | (with_reducible refine grow_drew ?_) | (with_reducible refine grow_step ?_ (by assumption)) | (with_reducible refine grow_base ?_ (by assumption)))) hb4
                have HCh : Hid (Chain ss (cs ++ [(pwI 64 s0, sgP s1 k (pwI 64 s0), sgA s1 k (pwI 64 s0))]) (n + 1 + 1) f (pwI 64 s0)) := Lib.hid (Or.inr ⟨by omega, by rw [List.length_append, HK.out.1]; rfl, HK.out.2.1, by rw [show n + 1 + 1 - 1 = n + 1 from by omega, HS0.out], by rw [show n + 1 + 1 - 1 = n + 1 from by omega, HS0.out]; exact HX.out, lastGo_snoc f _ _ _ cs z HK.out.2.2.2.2 HI.out (by rw [HK.out.2.2.1]; exact HR.out)⟩)
                have HO2 : Hid (OwnC w4 w.heap.size 32 3 A2 c2 k2 (certCells (cs ++ [(pwI 64 s0, sgP s1 k (pwI 64 s0), sgA s1 k (pwI 64 s0))]))) := Lib.hid (by rw [certCells_append]; exact ho2)
                clear ho2
                go_roundw
                case rel => exact ⟨A2, c2, k2, n + 1 + 1, _, f, pwI 64 s0, rfl, rfl, rfl, by go_num, by omega, by omega, Lib.hid (by rw [hk2.out, List.length_append]; rfl), HO2, HCh, hb5⟩
                case measure => simp [intOf]; omega
              · have hk : okSecret k = false := by
                  cases h : okSecret k
                  · rfl
                  · exfalso
                    have : okSign s1 k (pwI 64 s0) = true := by unfold okSign; rw [HK.out.2.2.2.1, h, okM_pwI]; rfl
                    unfold sgE at g1; rw [this] at g1; exact absurd g1 (by decide)
                have HV : Hid (cmE s1 k (pwI 64 s0) = 1) := Lib.hid (by unfold cmE; rw [hin, if_pos rfl, g1])
                have hk2 := okSecret_no hk
                clear hk g1 hin
                refine (certMake_any s1 k _ _).mono ?_
                rintro e w2 ⟨he, hb2⟩
                obtain rfl := he _ rfl
                rw [HV.out]
                clear he
                by_cases h1 : k < 1
                · go_wp2_with fail
                  go_ret
                  exact ⟨rfl, (by repeat (first | (with_reducible exact grow_refl _) | (with_reducible assumption) | (with_reducible refine grow_alloc ?_ _) | (with_reducible refine grow_set ?_ (by first | exact Nat.le_refl _ | (simp; done) | (simp; omega) | omega) _) | (with_reducible refine grow_drewN ?_ _) | (with_reducible refine grow_drew ?_) | (with_reducible refine grow_step ?_ (by assumption)) | (with_reducible refine grow_base ?_ (by assumption))))⟩
                · have h2 : 256 < k := by omega
                  go_wp2_with fail
                  go_ret
                  exact ⟨rfl, (by repeat (first | (with_reducible exact grow_refl _) | (with_reducible assumption) | (with_reducible refine grow_alloc ?_ _) | (with_reducible refine grow_set ?_ (by first | exact Nat.le_refl _ | (simp; done) | (simp; omega) | omega) _) | (with_reducible refine grow_drewN ?_ _) | (with_reducible refine grow_drew ?_) | (with_reducible refine grow_step ?_ (by assumption)) | (with_reducible refine grow_base ?_ (by assumption))))⟩
        · have HF := Lib.hid (HC.out.found)
          go_wp2_with fail
          go_meet
          exact ⟨A1, c1, _, cs, f, z, rfl, rfl, rfl, Lib.hid rfl, by have := HC.out.len; omega, Lib.hid (CertsAt.of_cells HO.out.cells), HF, (by repeat (first | (with_reducible exact grow_refl _) | (with_reducible assumption) | (with_reducible refine grow_alloc ?_ _) | (with_reducible refine grow_set ?_ (by first | exact Nat.le_refl _ | (simp; done) | (simp; omega) | omega) _) | (with_reducible refine grow_drewN ?_ _) | (with_reducible refine grow_drew ?_) | (with_reducible refine grow_step ?_ (by assumption)) | (with_reducible refine grow_base ?_ (by assumption))))⟩
      · have HF := Lib.hid (HC.out.found)
        go_wp2_with fail
        go_meet
        exact ⟨A1, c1, _, cs, f, z, rfl, rfl, rfl, Lib.hid rfl, by have := HC.out.len; omega, Lib.hid (CertsAt.of_cells HO.out.cells), HF, (by repeat (first | (with_reducible exact grow_refl _) | (with_reducible assumption) | (with_reducible refine grow_alloc ?_ _) | (with_reducible refine grow_set ?_ (by first | exact Nat.le_refl _ | (simp; done) | (simp; omega) | omega) _) | (with_reducible refine grow_drewN ?_ _) | (with_reducible refine grow_drew ?_) | (with_reducible refine grow_step ?_ (by assumption)) | (with_reducible refine grow_base ?_ (by assumption))))⟩
  case rest =>
    obtain ⟨A1, c1, n1, cs, f, z, rfl, rfl, rfl, HN1, hcs, HCA, HF, hbx⟩ := hcut
    obtain rfl := HN1.out
    rcases HF.out with h | ⟨h1, h2⟩
    · subst h
      clear HF
      go_wp2_with fail
      refine (last_any root A c l _ (HA.out.below (by repeat (first | (with_reducible exact grow_refl _) | (with_reducible assumption) | (with_reducible refine grow_alloc ?_ _) | (with_reducible refine grow_set ?_ (by first | exact Nat.le_refl _ | (simp; done) | (simp; omega) | omega) _) | (with_reducible refine grow_drewN ?_ _) | (with_reducible refine grow_drew ?_) | (with_reducible refine grow_step ?_ (by assumption)) | (with_reducible refine grow_base ?_ (by assumption))))) (by omega)).mono ?_
      rintro e w3 ⟨rfl, hb3⟩
      obtain ⟨⟨n, E⟩, hnE⟩ : ∃ t, certLast root l = t := ⟨_, rfl⟩
      rw [hnE]
      simp only
      by_cases hr : E = 0
      · subst hr
        by_cases h0 : cut < 0
        · clear hnE
          go_wp2_with fail
          go_ret
          exact ⟨rfl, (by repeat (first | (with_reducible exact grow_refl _) | (with_reducible assumption) | (with_reducible refine grow_alloc ?_ _) | (with_reducible refine grow_set ?_ (by first | exact Nat.le_refl _ | (simp; done) | (simp; omega) | omega) _) | (with_reducible refine grow_drewN ?_ _) | (with_reducible refine grow_drew ?_) | (with_reducible refine grow_step ?_ (by assumption)) | (with_reducible refine grow_base ?_ (by assumption))))⟩
        · by_cases h1 : (l.length : Int) < cut
          · clear hnE
            go_wp2_with fail
            go_ret
            exact ⟨rfl, (by repeat (first | (with_reducible exact grow_refl _) | (with_reducible assumption) | (with_reducible refine grow_alloc ?_ _) | (with_reducible refine grow_set ?_ (by first | exact Nat.le_refl _ | (simp; done) | (simp; omega) | omega) _) | (with_reducible refine grow_drewN ?_ _) | (with_reducible refine grow_drew ?_) | (with_reducible refine grow_step ?_ (by assumption)) | (with_reducible refine grow_base ?_ (by assumption))))⟩
          · obtain ⟨q, rfl⟩ : ∃ q : Nat, cut = q := ⟨cut.toNat, by omega⟩
            have HL := Lib.hid (chain_cut (root := root) (l := l) (by rw [hnE]) q)
            have HE := Lib.hid hnE
            clear hnE
            go_wp2_with fail
            refine (last_len root A c q (l.take q) _ (by rw [List.length_take]; omega) (CertsAt.take_ (HA.out.below (by repeat (first | (with_reducible exact grow_refl _) | (with_reducible assumption) | (with_reducible refine grow_alloc ?_ _) | (with_reducible refine grow_set ?_ (by first | exact Nat.le_refl _ | (simp; done) | (simp; omega) | omega) _) | (with_reducible refine grow_drewN ?_ _) | (with_reducible refine grow_drew ?_) | (with_reducible refine grow_step ?_ (by assumption)) | (with_reducible refine grow_base ?_ (by assumption))))) q) (by rw [List.length_take]; omega)).mono ?_
            rintro e w4 ⟨rfl, hb4⟩
            obtain ⟨⟨m, E4⟩, hm⟩ : ∃ t, certLast root (l.take q) = t := ⟨_, rfl⟩
            have H4 : Hid (E4 = 0 ∧ certLast m (l.drop q) = (n, 0)) := Lib.hid (by
              obtain ⟨L1, L2, L3⟩ := HL.out
              rw [hm] at L1 L2 L3
              rw [HE.out] at L3
              exact ⟨L1, Prod.ext L3 L2⟩)
            obtain rfl := H4.out.1
            rw [hm]
            simp only
            clear hm HL
            go_wp2_with fail
            · have H5 : Hid (certLast m [] = (n, 0)) := Lib.hid (by have := H4.out.2; rwa [List.drop_eq_nil_of_le (by omega)] at this)
              refine (last_len m A 0 (l.length - q) [] _ (by simp; omega) (CertsAt.nil_ _ _) (by simp)).mono ?_
              rintro e w5 ⟨rfl, hb5⟩
              rw [H5.out]
              go_wp2_with fail
              go_ret
              exact ⟨rfl, (by repeat (first | (with_reducible exact grow_refl _) | (with_reducible assumption) | (with_reducible refine grow_alloc ?_ _) | (with_reducible refine grow_set ?_ (by first | exact Nat.le_refl _ | (simp; done) | (simp; omega) | omega) _) | (with_reducible refine grow_drewN ?_ _) | (with_reducible refine grow_drew ?_) | (with_reducible refine grow_step ?_ (by assumption)) | (with_reducible refine grow_base ?_ (by assumption))))⟩
            · refine (last_len m _ (c - q) (l.length - q) (l.drop q) _ (by rw [List.length_drop]) (CertsAt.dropA (HA.out.below (by repeat (first | (with_reducible exact grow_refl _) | (with_reducible assumption) | (with_reducible refine grow_alloc ?_ _) | (with_reducible refine grow_set ?_ (by first | exact Nat.le_refl _ | (simp; done) | (simp; omega) | omega) _) | (with_reducible refine grow_drewN ?_ _) | (with_reducible refine grow_drew ?_) | (with_reducible refine grow_step ?_ (by assumption)) | (with_reducible refine grow_base ?_ (by assumption))))) q) (by rw [List.length_drop]; omega)).mono ?_
              rintro e w5 ⟨rfl, hb5⟩
              rw [H4.out.2]
              go_wp2_with fail
              go_ret
              exact ⟨rfl, (by repeat (first | (with_reducible exact grow_refl _) | (with_reducible assumption) | (with_reducible refine grow_alloc ?_ _) | (with_reducible refine grow_set ?_ (by first | exact Nat.le_refl _ | (simp; done) | (simp; omega) | omega) _) | (with_reducible refine grow_drewN ?_ _) | (with_reducible refine grow_drew ?_) | (with_reducible refine grow_step ?_ (by assumption)) | (with_reducible refine grow_base ?_ (by assumption))))⟩
      · have t : (E != 0) = true := by simpa using hr
        clear hr hnE
        go_wp2_with fail
        go_ret
        exact ⟨rfl, (by repeat (first | (with_reducible exact grow_refl _) | (with_reducible assumption) | (with_reducible refine grow_alloc ?_ _) | (with_reducible refine grow_set ?_ (by first | exact Nat.le_refl _ | (simp; done) | (simp; omega) | omega) _) | (with_reducible refine grow_drewN ?_ _) | (with_reducible refine grow_drew ?_) | (with_reducible refine grow_step ?_ (by assumption)) | (with_reducible refine grow_base ?_ (by assumption))))⟩
    · have hcl : Hid (certLast f cs = (z, 0)) := Lib.hid (by unfold certLast; rw [if_neg (by omega), if_pos h1, h2])
      have f1 := (okIn_yes h1).1
      clear HF h1 h2
      go_wp2_with fail
      refine (last_any f A1 c1 cs _ HCA.out (by omega)).mono ?_
      rintro e w2 ⟨rfl, hb2⟩
      rw [hcl.out]
      go_wp2_with fail
      refine (last_any root A c l _ (HA.out.below (by repeat (first | (with_reducible exact grow_refl _) | (with_reducible assumption) | (with_reducible refine grow_alloc ?_ _) | (with_reducible refine grow_set ?_ (by first | exact Nat.le_refl _ | (simp; done) | (simp; omega) | omega) _) | (with_reducible refine grow_drewN ?_ _) | (with_reducible refine grow_drew ?_) | (with_reducible refine grow_step ?_ (by assumption)) | (with_reducible refine grow_base ?_ (by assumption))))) (by omega)).mono ?_
      rintro e w3 ⟨rfl, hb3⟩
      obtain ⟨⟨n, E⟩, hnE⟩ : ∃ t, certLast root l = t := ⟨_, rfl⟩
      rw [hnE]
      simp only
      by_cases hr : E = 0
      · subst hr
        by_cases h0 : cut < 0
        · clear hnE
          go_wp2_with fail
          go_ret
          exact ⟨rfl, (by repeat (first | (with_reducible exact grow_refl _) | (with_reducible assumption) | (with_reducible refine grow_alloc ?_ _) | (with_reducible refine grow_set ?_ (by first | exact Nat.le_refl _ | (simp; done) | (simp; omega) | omega) _) | (with_reducible refine grow_drewN ?_ _) | (with_reducible refine grow_drew ?_) | (with_reducible refine grow_step ?_ (by assumption)) | (with_reducible refine grow_base ?_ (by assumption))))⟩
        · by_cases h1 : (l.length : Int) < cut
          · clear hnE
            go_wp2_with fail
            go_ret
            exact ⟨rfl, (by repeat (first | (with_reducible exact grow_refl _) | (with_reducible assumption) | (with_reducible refine grow_alloc ?_ _) | (with_reducible refine grow_set ?_ (by first | exact Nat.le_refl _ | (simp; done) | (simp; omega) | omega) _) | (with_reducible refine grow_drewN ?_ _) | (with_reducible refine grow_drew ?_) | (with_reducible refine grow_step ?_ (by assumption)) | (with_reducible refine grow_base ?_ (by assumption))))⟩
          · obtain ⟨q, rfl⟩ : ∃ q : Nat, cut = q := ⟨cut.toNat, by omega⟩
            have HL := Lib.hid (chain_cut (root := root) (l := l) (by rw [hnE]) q)
            have HE := Lib.hid hnE
            clear hnE
            go_wp2_with fail
            refine (last_len root A c q (l.take q) _ (by rw [List.length_take]; omega) (CertsAt.take_ (HA.out.below (by repeat (first | (with_reducible exact grow_refl _) | (with_reducible assumption) | (with_reducible refine grow_alloc ?_ _) | (with_reducible refine grow_set ?_ (by first | exact Nat.le_refl _ | (simp; done) | (simp; omega) | omega) _) | (with_reducible refine grow_drewN ?_ _) | (with_reducible refine grow_drew ?_) | (with_reducible refine grow_step ?_ (by assumption)) | (with_reducible refine grow_base ?_ (by assumption))))) q) (by rw [List.length_take]; omega)).mono ?_
            rintro e w4 ⟨rfl, hb4⟩
            obtain ⟨⟨m, E4⟩, hm⟩ : ∃ t, certLast root (l.take q) = t := ⟨_, rfl⟩
            have H4 : Hid (E4 = 0 ∧ certLast m (l.drop q) = (n, 0)) := Lib.hid (by
              obtain ⟨L1, L2, L3⟩ := HL.out
              rw [hm] at L1 L2 L3
              rw [HE.out] at L3
              exact ⟨L1, Prod.ext L3 L2⟩)
            obtain rfl := H4.out.1
            rw [hm]
            simp only
            clear hm HL
            go_wp2_with fail
            · have H5 : Hid (certLast m [] = (n, 0)) := Lib.hid (by have := H4.out.2; rwa [List.drop_eq_nil_of_le (by omega)] at this)
              refine (last_len m A 0 (l.length - q) [] _ (by simp; omega) (CertsAt.nil_ _ _) (by simp)).mono ?_
              rintro e w5 ⟨rfl, hb5⟩
              rw [H5.out]
              go_wp2_with fail
              go_ret
              exact ⟨rfl, (by repeat (first | (with_reducible exact grow_refl _) | (with_reducible assumption) | (with_reducible refine grow_alloc ?_ _) | (with_reducible refine grow_set ?_ (by first | exact Nat.le_refl _ | (simp; done) | (simp; omega) | omega) _) | (with_reducible refine grow_drewN ?_ _) | (with_reducible refine grow_drew ?_) | (with_reducible refine grow_step ?_ (by assumption)) | (with_reducible refine grow_base ?_ (by assumption))))⟩
            · refine (last_len m _ (c - q) (l.length - q) (l.drop q) _ (by rw [List.length_drop]) (CertsAt.dropA (HA.out.below (by repeat (first | (with_reducible exact grow_refl _) | (with_reducible assumption) | (with_reducible refine grow_alloc ?_ _) | (with_reducible refine grow_set ?_ (by first | exact Nat.le_refl _ | (simp; done) | (simp; omega) | omega) _) | (with_reducible refine grow_drewN ?_ _) | (with_reducible refine grow_drew ?_) | (with_reducible refine grow_step ?_ (by assumption)) | (with_reducible refine grow_base ?_ (by assumption))))) q) (by rw [List.length_drop]; omega)).mono ?_
              rintro e w5 ⟨rfl, hb5⟩
              rw [H4.out.2]
              go_wp2_with fail
              go_ret
              exact ⟨rfl, (by repeat (first | (with_reducible exact grow_refl _) | (with_reducible assumption) | (with_reducible refine grow_alloc ?_ _) | (with_reducible refine grow_set ?_ (by first | exact Nat.le_refl _ | (simp; done) | (simp; omega) | omega) _) | (with_reducible refine grow_drewN ?_ _) | (with_reducible refine grow_drew ?_) | (with_reducible refine grow_step ?_ (by assumption)) | (with_reducible refine grow_base ?_ (by assumption))))⟩
      · have t : (E != 0) = true := by simpa using hr
        clear hr hnE
        go_wp2_with fail
        go_ret
        exact ⟨rfl, (by repeat (first | (with_reducible exact grow_refl _) | (with_reducible assumption) | (with_reducible refine grow_alloc ?_ _) | (with_reducible refine grow_set ?_ (by first | exact Nat.le_refl _ | (simp; done) | (simp; omega) | omega) _) | (with_reducible refine grow_drewN ?_ _) | (with_reducible refine grow_drew ?_) | (with_reducible refine grow_step ?_ (by assumption)) | (with_reducible refine grow_base ?_ (by assumption))))⟩

set_option maxRecDepth 100000 in
theorem certChain_walks (H : Type) (enc : TypeId × Value → H) : Walks enc Try.prog 3 Try.f3 := by
  intro W base args ds p hval hA hlt hsz hsh
  have hsz0 := hsz
  rw [Try.params3] at hA hval
  obtain ⟨v0, vs0, d0, ds0, p0, q0, hargs, rfl, rfl, h0, r0⟩ := trodAll_cons hA
  obtain ⟨v1, vs1, d1, ds1, p1, q1, rfl, rfl, rfl, h1, r1⟩ := trodAll_cons r0
  obtain ⟨v2, vs2, d2, ds2, p2, q2, rfl, rfl, rfl, h2, r2⟩ := trodAll_cons r1
  obtain ⟨v3, vs3, d3, ds3, p3, q3, rfl, rfl, rfl, h3, r3⟩ := trodAll_cons r2
  obtain ⟨v4, vs4, d4, ds4, p4, q4, rfl, rfl, rfl, h4, r4⟩ := trodAll_cons r3
  obtain ⟨rfl, rfl, rfl⟩ := trodAll_nil r4
  obtain rfl : args = #[v0, v1, v2, v3, v4] := by cases args; simp_all
  obtain ⟨A0, a0, c0, rfl, w0, i0, z0⟩ := op_ints (hval 0 22 v0 rfl rfl) h0 (fun x hx => hlt x (by simp [hx])) (w_each hsz 0 22 _ (by rw [Try.params3]; rfl) rfl)
  obtain ⟨a1, rfl, w1⟩ := op_int (hval 1 3 v1 rfl rfl) h1
  obtain ⟨a2, rfl, w2⟩ := op_int (hval 2 3 v2 rfl rfl) h2
  obtain ⟨A3, a3, c3, rfl, w3, z3, y3⟩ := op_certs (hval 3 23 v3 rfl rfl) h3 (fun x hx => hlt x (by simp [hx])) (w_each hsz 3 23 _ (by rw [Try.params3]; rfl) rfl)
  obtain ⟨a4, rfl, w4⟩ := op_int (hval 4 3 v4 rfl rfl) h4
  exact certChain_walk W A0 a0 c0 a1 a2 A3 a3 c3 a4 w0 i0 z0 w1 w2 w3 z3 y3 w4

set_option maxRecDepth 100000 in
theorem certChain_lifted (os : Os) (started : os.Started) (H : Type) (enc : TypeId × Value → H) :
    ReturnsInHanded {} Try.checked os 3 .any (Rows.certChainSpec.pre6 enc Try.prog Try.f3 Rows.certChainRow.domain false) (Rows.certChainSpec.post enc Try.prog Try.f3 false true false false) :=
  returns_of_walk (C := Try.checked) (s := Rows.certChainSpec) own started (by kernel_rfl) Try.func3
    (ChangeSpec.witness6 (enc := enc) (C := Try.checked) false ⟨#[], #[.slice none 0 0, .int .i64 0, .int .i64 0, .slice none 0 0, .int .i64 0], []⟩ 8 (by kernel_rfl) (by kernel_rfl) (by kernel_rfl) (by kernel_rfl))
    laidOut (by kernel_rfl) (by kernel_rfl) Try.underlying4 rfl (fun ds h => by match ds, h with | [_, _, _, _, _], _ => rfl) (certChain_walks H enc)

theorem certChain_holds : Rows.CertChainSaid :=
  OpenClaim.holds_of_wide 3 Try.f3 rfl rfl rfl rfl rfl rfl rfl ⟨rfl, rfl, rfl, rfl, rfl⟩ rfl rfl rfl rfl rfl (by kernel_rfl) Try.func3 (by kernel_rfl)
    (of_decide_eq_true (by kernel_rfl)) (by unfold Func.isWrapper; rw [if_neg (of_decide_eq_false (by kernel_rfl))]; exact ⟨rfl, rfl⟩)
    (fun os started H enc _ => certChain_lifted os started H enc)

end Go.Proofs.Ytebecndmlgolpaa
