/- boot.check, boot.Run: what they answer for any row of images. -/
import Derived.Test.YtdedllfgeekogaaDoorRows
import Derived.Test.YtdedllfgeekogaaDoorNum
import Derived.Test.YtdedllfgeekogaaDoorBase
import Derived.Test.YtdedllfgeekogaaDoorApp
import Derived.Test.YtdedllfgeekogaaDoorKey
import Derived.Test.YtdedllfgeekogaaDoorOpI
import Derived.Test.YtdedllfgeekogaaDoorOpE
import Derived.Test.YtdedllfgeekogaaDoorBank3
import Derived.Test.YtdedllfgeekogaaDoorImg
import Derived.Test.YtdedllfgeekogaaDoorImg2
import Derived.Test.YtdedllfgeekogaaDoorSign
import Derived.Test.YtdedllfgeekogaaDoorLiftT
import Derived.Test.YtdedllfgeekogaaDoorBootP
import Derived.Test.YtdedllfgeekogaaDoorFoot
import Derived.WalkKit
import Derived.WalkSpells
import Derived.WalkLawsBesides
import Derived.Lib.Hide
import Derived.Deep.QuietTactic
import Derived.BigQuiet
import Derived.RegionTactic
import Derived.BigRegion
import Derived.Deep.DeepCutAuto
namespace Go.Proofs.YtdedllfgeekogaaDoor
open Go.RowKit
set_option maxRecDepth 100000
set_option linter.unusedSimpArgs false
set_option linter.unusedVariables false

theorem OwnC.far {w : World} {base : Nat} {e : TypeId} {size : Nat} {A : Option Addr} {c n : Nat} {cs : List Value} (h : OwnC w base e size A c n cs) {p : Addr} (hp : p.block < base) (u : Value) : OwnC (w.setCell p u) base e size A c n cs := by
  refine ⟨h.1, ?_⟩
  rcases h.2 with h2 | ⟨g, cap, cur, hv, hg, hh, r⟩
  · exact Or.inl h2
  · exact Or.inr ⟨g, cap, cur, hv, hg, (Below.heap_setCell w p u g (by omega)).trans hh, r⟩
theorem OwnC.far8 {w : World} {base : Nat} {e : TypeId} {size : Nat} {A : Option Addr} {c n : Nat} {cs : List Value} (h : OwnC w base e size A c n cs) {b : Nat} (hp : b < base) {i0 i1 i2 i3 i4 i5 i6 i7 : Nat} (u0 u1 u2 u3 u4 u5 u6 u7 : Value) :
    OwnC ((((((((w.setCell ⟨b, i0, none⟩ u0).setCell ⟨b, i1, none⟩ u1).setCell ⟨b, i2, none⟩ u2).setCell ⟨b, i3, none⟩ u3).setCell ⟨b, i4, none⟩ u4).setCell ⟨b, i5, none⟩ u5).setCell ⟨b, i6, none⟩ u6).setCell ⟨b, i7, none⟩ u7) base e size A c n cs :=
  (((((((h.far (p := ⟨b, i0, none⟩) hp u0).far (p := ⟨b, i1, none⟩) hp u1).far (p := ⟨b, i2, none⟩) hp u2).far (p := ⟨b, i3, none⟩) hp u3).far (p := ⟨b, i4, none⟩) hp u4).far (p := ⟨b, i5, none⟩) hp u5).far (p := ⟨b, i6, none⟩) hp u6).far (p := ⟨b, i7, none⟩) hp u7
theorem Box.far8 {w : World} {b : Nat} {t : TypeId} {cs : Array Value} (h : Box w b t cs) {g : Nat} (hp : b ≠ g) {i0 i1 i2 i3 i4 i5 i6 i7 : Nat} (u0 u1 u2 u3 u4 u5 u6 u7 : Value) :
    Box ((((((((w.setCell ⟨g, i0, none⟩ u0).setCell ⟨g, i1, none⟩ u1).setCell ⟨g, i2, none⟩ u2).setCell ⟨g, i3, none⟩ u3).setCell ⟨g, i4, none⟩ u4).setCell ⟨g, i5, none⟩ u5).setCell ⟨g, i6, none⟩ u6).setCell ⟨g, i7, none⟩ u7) b t cs :=
  (((((((h.far (p := ⟨g, i0, none⟩) hp u0).far (p := ⟨g, i1, none⟩) hp u1).far (p := ⟨g, i2, none⟩) hp u2).far (p := ⟨g, i3, none⟩) hp u3).far (p := ⟨g, i4, none⟩) hp u4).far (p := ⟨g, i5, none⟩) hp u5).far (p := ⟨g, i6, none⟩) hp u6).far (p := ⟨g, i7, none⟩) hp u7
theorem infoEv_ : (Tryd.prog.info? 98).map (fun i => (i.zero, i.size, i.bytes)) = some (some (.agg #[.int .i64 0, .int .i64 0]), 2, 16) := by kernel_rfl

set_option maxHeartbeats 2000000 in
theorem bootCheck_any (q : Int) (A : Option Addr) (ss : List Sgn) (c : Nat) (w : World) (hS : SgnsAt w A ss) (hl : ss.length ≤ 900000000000000)
    (hss : ∀ i, i < ss.length → (ss.getD i noSgn).1.size ≤ 140737488351232 ∧ (ss.getD i noSgn).2.2.1.size ≤ 140737488351232) :
    Calls Tryd.prog 38 #[.int .i64 q, .slice A ss.length c] w fun e w' => e = .returned (errV (bootE q ss)) ∧ Below w.heap.size w w' := by
  have en := fun k w => err_neq k w
  have gn := fun o k w => err_guard_neq o k w
  have HS := Lib.hid hS
  have HZ := Lib.hid hss
  clear hS hss
  cases h : okIn q
  · have HE : Hid (bootE q ss = 1) := Lib.hid (by unfold bootE; rw [h]; rfl)
    go_enter Tryd.func38, Tryd.ntmps38
    go_wp2_with (go_at_call 43; refine (in_any _ _).mono ?_; rintro e w' ⟨rfl, rfl⟩; rw [h])
    go_ret
    exact ⟨by rw [HE.out]; rfl, (by repeat (first | (with_reducible exact grow_refl _) | (with_reducible assumption) | (with_reducible refine grow_alloc ?_ _) | (with_reducible refine grow_set ?_ (by first | exact Nat.le_refl _ | (simp; done) | (simp; omega) | omega) _) | (with_reducible refine grow_drewN ?_ _) | (with_reducible refine grow_drew ?_) | (with_reducible refine grow_step ?_ (by assumption)) | (with_reducible refine grow_base ?_ (by assumption))))⟩
  · by_cases h8 : 8 < ss.length
    · have HE : Hid (bootE q ss = 4) := Lib.hid (by unfold bootE; rw [h, if_pos rfl, if_pos h8])
      have g8 : (8 : Int) < (ss.length : Int) := by omega
      go_enter Tryd.func38, Tryd.ntmps38
      go_wp2_with (go_at_call 43; refine (in_any _ _).mono ?_; rintro e w' ⟨rfl, rfl⟩; rw [h])
      go_ret
      exact ⟨by rw [HE.out]; rfl, (by repeat (first | (with_reducible exact grow_refl _) | (with_reducible assumption) | (with_reducible refine grow_alloc ?_ _) | (with_reducible refine grow_set ?_ (by first | exact Nat.le_refl _ | (simp; done) | (simp; omega) | omega) _) | (with_reducible refine grow_drewN ?_ _) | (with_reducible refine grow_drew ?_) | (with_reducible refine grow_step ?_ (by assumption)) | (with_reducible refine grow_base ?_ (by assumption))))⟩
    · have HE : Hid (bootE q ss = firstE ss) := Lib.hid (by unfold bootE; rw [h, if_pos rfl, if_neg h8])
      have g8 : ¬ (8 : Int) < (ss.length : Int) := by omega
      go_enter Tryd.func38, Tryd.ntmps38
      go_wp2_with (go_at_call 43; refine (in_any _ _).mono ?_; rintro e w' ⟨rfl, rfl⟩; rw [h])
      go_loopw [20] (fun i wr => ∃ k : Nat, k ≤ ss.length ∧ i = .int .i64 k ∧ Hid (firstE ss = firstE (ss.drop k)) ∧ Below w.heap.size w wr) (fun i _ => ss.length - (intOf i).toNat)
      case atStart => exact ⟨0, by omega, rfl, Lib.hid rfl, (by repeat (first | (with_reducible exact grow_refl _) | (with_reducible assumption) | (with_reducible refine grow_alloc ?_ _) | (with_reducible refine grow_set ?_ (by first | exact Nat.le_refl _ | (simp; done) | (simp; omega) | omega) _) | (with_reducible refine grow_drewN ?_ _) | (with_reducible refine grow_drew ?_) | (with_reducible refine grow_step ?_ (by assumption)) | (with_reducible refine grow_base ?_ (by assumption))))⟩
      case round =>
        obtain ⟨k, hk, rfl, HF, hb⟩ := hrel
        by_cases hlt : k < ss.length
        · have g0 : (k : Int) < (ss.length : Int) := by omega
          obtain ⟨b1, off1, rfl, _, hcs⟩ := (HS.out.below hb) k hlt
          obtain ⟨z1, z2⟩ := HZ.out k hlt
          have hyes := fun h0 => HF.out.trans (firstE_step hlt h0)
          have hno := fun h0 => HF.out.trans (firstE_bad hlt h0)
          obtain ⟨⟨sn, sv, sc, sp, sa⟩, hz⟩ : ∃ z, ss.getD k noSgn = z := ⟨_, rfl⟩
          rw [hz] at hcs z1 z2 hyes hno
          simp only [sgnCs, sgX] at hcs z1 z2 hyes hno
          have e0 := hcs 0 (by decide)
          have e1 := hcs 1 (by decide)
          have e2 := hcs 2 (by decide)
          have e3 := hcs 3 (by decide)
          have e4 := hcs 4 (by decide)
          simp [-CellFam.cellOfFamily] at e0 e1 e2 e3 e4
          clear hz hcs
          by_cases hX : imgE sn sv sc = 0
          · have HX := Lib.hid hX
            have HF2 := Lib.hid (hyes hX)
            clear hyes hno hX
            go_wp2_with fail
            refine (imgCheck_any sn sv sc _ (by omega) (by omega)).mono ?_
            rintro e w1 ⟨rfl, hb1⟩
            rw [HX.out]
            go_wp2_with fail
            go_roundw
            case rel => exact ⟨k + 1, by omega, by go_num, HF2, (by repeat (first | (with_reducible exact grow_refl _) | (with_reducible assumption) | (with_reducible refine grow_alloc ?_ _) | (with_reducible refine grow_set ?_ (by first | exact Nat.le_refl _ | (simp; done) | (simp; omega) | omega) _) | (with_reducible refine grow_drewN ?_ _) | (with_reducible refine grow_drew ?_) | (with_reducible refine grow_step ?_ (by assumption)) | (with_reducible refine grow_base ?_ (by assumption))))⟩
            case measure => simp [intOf]; omega
          · have HF2 := Lib.hid (hno hX)
            clear hyes hno
            obtain ⟨E, hE⟩ : ∃ E, imgE sn sv sc = E := ⟨_, rfl⟩
            rw [hE] at hX
            have t : (E != 0) = true := by simp [hX]
            have HX := Lib.hid hE
            clear hE hX
            go_wp2_with fail
            refine (imgCheck_any sn sv sc _ (by omega) (by omega)).mono ?_
            rintro e w1 ⟨rfl, hb1⟩
            rw [HX.out]
            go_wp2_with fail
            go_ret
            exact ⟨by rw [HE.out, HF2.out, HX.out]; rfl, (by repeat (first | (with_reducible exact grow_refl _) | (with_reducible assumption) | (with_reducible refine grow_alloc ?_ _) | (with_reducible refine grow_set ?_ (by first | exact Nat.le_refl _ | (simp; done) | (simp; omega) | omega) _) | (with_reducible refine grow_drewN ?_ _) | (with_reducible refine grow_drew ?_) | (with_reducible refine grow_step ?_ (by assumption)) | (with_reducible refine grow_base ?_ (by assumption))))⟩
        · have g0 : ¬ (k : Int) < (ss.length : Int) := by omega
          have HF2 := Lib.hid (HF.out.trans (firstE_end (by omega)))
          go_wp2_with fail
          go_ret
          exact ⟨by rw [HE.out, HF2.out]; rfl, (by repeat (first | (with_reducible exact grow_refl _) | (with_reducible assumption) | (with_reducible refine grow_alloc ?_ _) | (with_reducible refine grow_set ?_ (by first | exact Nat.le_refl _ | (simp; done) | (simp; omega) | omega) _) | (with_reducible refine grow_drewN ?_ _) | (with_reducible refine grow_drew ?_) | (with_reducible refine grow_step ?_ (by assumption)) | (with_reducible refine grow_base ?_ (by assumption))))⟩

theorem res4b {P : Program} {fn : Func} {p u1 u2 u3 : Tmp} {ty : TypeId} (h : fn.results = #[.cell p ty, .tmp u1, .tmp u2, .tmp u3]) {tmps : Array Value} {w : World} {g : Nat} {t : TypeId} {cs : Array Value} {d : TypeDesc}
    (hp : tmps.getD p undef = .pointer (some ⟨g, 0, none⟩)) (hb : Box w g t cs) (hu : P.underlying ty = some d) (hd : (match d with | .struct _ | .array _ _ => true | _ => false) = true) (hi : (P.info? ty).map (·.size) = some cs.size) :
    (results fn tmps).run P w = .ok (.tuple #[.agg cs, tmps.getD u1 undef, tmps.getD u2 undef, tmps.getD u3 undef]) w := by
  have hp' : tmps[p]?.getD undef = .pointer (some ⟨g, 0, none⟩) := by simpa using hp
  simp [results, h, hp', asAddr, run_loadVar_row w g t ty cs (0, 0) d hb hu hd hi]

set_option maxHeartbeats 2000000 in
theorem bootRun_bad (q : Int) (A : Option Addr) (ss : List Sgn) (c : Nat) (w : World) (hS : SgnsAt w A ss) (hl : ss.length ≤ 900000000000000)
    (hss : ∀ i, i < ss.length → (ss.getD i noSgn).1.size ≤ 140737488351232 ∧ (ss.getD i noSgn).2.2.1.size ≤ 140737488351232) (hbad : bootE q ss ≠ 0) :
    Calls Tryd.prog 10 #[.int .i64 q, .slice A ss.length c] w fun e w' => e = .returned (.tuple #[.agg #[.int .i64 0, .int .i64 0, .int .i64 0, .int .i64 0, .int .i64 0, .int .i64 0, .int .i64 0, .int .i64 0], .slice none 0 0, .int .i64 0, errV (bootE q ss)]) ∧ Below w.heap.size w w' := by
  have en := fun k w => err_neq k w
  have gn := fun o k w => err_guard_neq o k w
  obtain ⟨E, hE⟩ : ∃ E, bootE q ss = E := ⟨_, rfl⟩
  have HC := Lib.hid (fun w (h : SgnsAt w A ss) => bootCheck_any q A ss c w h hl hss)
  rw [hE] at hbad HC ⊢
  have HS := Lib.hid hS
  have t : (E != 0) = true := by simp [hbad]
  have B := Box.new w 38 #[.int .i64 0, .int .i64 0, .int .i64 0, .int .i64 0, .int .i64 0, .int .i64 0, .int .i64 0, .int .i64 0]
  have HB := Lib.hid B
  clear hS hss hE hbad B
  go_enter Tryd.func10, Tryd.ntmps10
  go_wp2_with fail
  refine (HC.out _ (HS.out.below (by repeat (first | (with_reducible exact grow_refl _) | (with_reducible assumption) | (with_reducible refine grow_alloc ?_ _) | (with_reducible refine grow_set ?_ (by first | exact Nat.le_refl _ | (simp; done) | (simp; omega) | omega) _) | (with_reducible refine grow_drewN ?_ _) | (with_reducible refine grow_drew ?_) | (with_reducible refine grow_step ?_ (by assumption)) | (with_reducible refine grow_base ?_ (by assumption)))))).mono ?_
  rintro e w1 ⟨rfl, hb1⟩
  have B1 := HB.out.below hb1
  have cB := B1.cell
  have fB := B1.frozen
  have lB := B1.lt
  go_wp2_with fail
  exact bodyPost_ret (v := .tuple #[.agg #[.int .i64 0, .int .i64 0, .int .i64 0, .int .i64 0, .int .i64 0, .int .i64 0, .int .i64 0, .int .i64 0], .slice none 0 0, .int .i64 0, errV E]) (res4b Tryd.results10 rfl (B1.fill8 _ _ _ _ _ _ _ _) Tryd.underlying38 rfl (by kernel_rfl)) rfl ⟨rfl, (by repeat (first | (with_reducible exact grow_refl _) | (with_reducible assumption) | (with_reducible refine grow_alloc ?_ _) | (with_reducible refine grow_set ?_ (by first | exact Nat.le_refl _ | (simp; done) | (simp; omega) | omega) _) | (with_reducible refine grow_drewN ?_ _) | (with_reducible refine grow_drew ?_) | (with_reducible refine grow_step ?_ (by assumption)) | (with_reducible refine grow_base ?_ (by assumption))))⟩

def BootPost (q : Int) (ss : List Sgn) (w : World) (e : Ending) (w' : World) : Prop :=
  ∃ (m n : Nat) (A : Option Addr) (c : Nat) (es : List (Int × Int)) (y0 y1 y2 y3 y4 y5 y6 y7 : Int), BootIs q ss m n ∧ es = evK ss m ∧ [y0, y1, y2, y3, y4, y5, y6, y7] = bankK ss m ∧
    e = .returned (.tuple #[.agg #[.int .i64 y0, .int .i64 y1, .int .i64 y2, .int .i64 y3, .int .i64 y4, .int .i64 y5, .int .i64 y6, .int .i64 y7], .slice A es.length c, .int .i64 n, errV 0]) ∧ EvsAt w' A es ∧ Below w.heap.size w w'

/-- As BootPost, the events made anew. -/
def BootPostF (q : Int) (ss : List Sgn) (w : World) (e : Ending) (w' : World) : Prop :=
  ∃ (m n : Nat) (A : Option Addr) (c : Nat) (es : List (Int × Int)) (y0 y1 y2 y3 y4 y5 y6 y7 : Int), BootIs q ss m n ∧ es = evK ss m ∧ [y0, y1, y2, y3, y4, y5, y6, y7] = bankK ss m ∧
    e = .returned (.tuple #[.agg #[.int .i64 y0, .int .i64 y1, .int .i64 y2, .int .i64 y3, .int .i64 y4, .int .i64 y5, .int .i64 y6, .int .i64 y7], .slice A es.length c, .int .i64 n, errV 0]) ∧ EvsAt w' A es ∧ (∀ a, A = some a → w.heap.size ≤ a.block) ∧ Below w.heap.size w w'

set_option maxHeartbeats 4000000 in
theorem bootRun_fr (q : Int) (A : Option Addr) (ss : List Sgn) (c : Nat) (w : World) (hS : SgnsAt w A ss)
    (hss : ∀ i, i < ss.length → (ss.getD i noSgn).1.size ≤ 140737488351232 ∧ (ss.getD i noSgn).2.2.1.size ≤ 140737488351232) (hok : bootE q ss = 0) (ht : TabT w) :
    Calls Tryd.prog 10 #[.int .i64 q, .slice A ss.length c] w (BootPostF q ss w) := by
  have en := fun k w => err_neq k w
  have gn := fun o k w => err_guard_neq o k w
  obtain ⟨_, h8, hX⟩ := bootE_ok hok
  have HC := Lib.hid (fun w (h : SgnsAt w A ss) => bootCheck_any q A ss c w h (by omega) hss)
  rw [hok] at HC
  have HS := Lib.hid hS
  have HZ := Lib.hid hss
  have HT := Lib.hid ht
  have HXX := Lib.hid hX
  have HB := Lib.hid (Box.new w 38 #[.int .i64 0, .int .i64 0, .int .i64 0, .int .i64 0, .int .i64 0, .int .i64 0, .int .i64 0, .int .i64 0])
  clear hS hss hok hX ht
  go_enter Tryd.func10, Tryd.ntmps10
  go_wp2_with fail
  refine (HC.out _ (HS.out.below (by repeat (first | (with_reducible exact grow_refl _) | (with_reducible assumption) | (with_reducible refine grow_alloc ?_ _) | (with_reducible refine grow_set ?_ (by first | exact Nat.le_refl _ | (simp; done) | (simp; omega) | omega) _) | (with_reducible refine grow_drewN ?_ _) | (with_reducible refine grow_drew ?_) | (with_reducible refine grow_step ?_ (by assumption)) | (with_reducible refine grow_base ?_ (by assumption)))))).mono ?_
  rintro e w1 ⟨rfl, hb1⟩
  have HB1 := Lib.hid (HB.out.below hb1)
  have hbw1 : Below w.heap.size w w1 := grow_step (grow_alloc (grow_refl _) _) hb1
  have hlt1 : w.heap.size < w1.heap.size := HB1.out.lt
  have hN1 := Box.new w1 38 #[.int .i64 0, .int .i64 0, .int .i64 0, .int .i64 0, .int .i64 0, .int .i64 0, .int .i64 0, .int .i64 0]
  have HN1 := Lib.hid hN1
  have HB2 := Lib.hid (HB1.out.alloc_ (.cells #[.int .i64 0, .int .i64 0, .int .i64 0, .int .i64 0, .int .i64 0, .int .i64 0, .int .i64 0, .int .i64 0] 38))
  clear hb1 HB HB1 hN1
  go_wp2_with fail
  go_loopw [10, 25] (fun o i wr => ∃ (k n : Nat) (A1 : Option Addr) (c1 : Nat) (y0 y1 y2 y3 y4 y5 y6 y7 : Int), k ≤ ss.length ∧ o = .slice A1 n c1 ∧ i = .int .i64 k ∧ Hid (n = k) ∧ Hid ([y0, y1, y2, y3, y4, y5, y6, y7] = bankK ss k) ∧
      Hid (OwnC wr (w1.heap.size + 1) 98 2 A1 c1 n (evCells (evK ss k))) ∧ Hid (Box wr w.heap.size 38 #[.int .i64 0, .int .i64 0, .int .i64 0, .int .i64 0, .int .i64 0, .int .i64 0, .int .i64 0, .int .i64 0]) ∧
      Hid (Box wr w1.heap.size 38 #[.int .i64 y0, .int .i64 y1, .int .i64 y2, .int .i64 y3, .int .i64 y4, .int .i64 y5, .int .i64 y6, .int .i64 y7]) ∧ Hid (∀ i, i < k → sgC q (ss.getD i noSgn) = 0) ∧ Below w.heap.size w wr)
    (fun _ i _ => ss.length - (intOf i).toNat)
  case atStart => exact ⟨0, 0, none, 0, 0, 0, 0, 0, 0, 0, 0, 0, by omega, rfl, rfl, Lib.hid rfl, Lib.hid rfl, Lib.hid (OwnC.start _ _ _ _), HB2, HN1, Lib.hid (fun i hi => absurd hi (by omega)), (by repeat (first | (with_reducible exact grow_refl _) | (with_reducible assumption) | (with_reducible refine grow_alloc ?_ _) | (with_reducible refine grow_set ?_ (by first | exact Nat.le_refl _ | (simp; done) | (simp; omega) | omega) _) | (with_reducible refine grow_drewN ?_ _) | (with_reducible refine grow_drew ?_) | (with_reducible refine grow_step ?_ (by assumption)) | (with_reducible refine grow_base ?_ (by assumption))))⟩
  case round =>
    obtain ⟨k, n, A1, c1, y0, y1, y2, y3, y4, y5, y6, y7, hk, rfl, rfl, HN, HY, HO, HB, HM, HG, hb⟩ := hrel
    obtain rfl : k = n := HN.out.symm
    by_cases hlt : k < ss.length
    · have g0 : (k : Int) < (ss.length : Int) := by omega
      obtain ⟨b1, off1, rfl, _, hcs⟩ := (HS.out.below hb) k hlt
      obtain ⟨z1, z2⟩ := HZ.out k hlt
      have hx0 := HXX.out k hlt
      have hext := bankK_ext (ss := ss) (k := k) (by omega)
      obtain ⟨⟨sn, sv, sc, sp, sa⟩, hz⟩ : ∃ z, ss.getD k noSgn = z := ⟨_, rfl⟩
      rw [hz] at hcs z1 z2 hx0 hext
      simp only [sgnCs, sgX, sgW] at hcs z1 z2 hx0 hext
      have HX0 := Lib.hid hx0
      have HE := Lib.hid hext
      have HZ1 := Lib.hid hz
      have e0 := hcs 0 (by decide)
      have e1 := hcs 1 (by decide)
      have e2 := hcs 2 (by decide)
      have e3 := hcs 3 (by decide)
      have e4 := hcs 4 (by decide)
      simp [-CellFam.cellOfFamily] at e0 e1 e2 e3 e4
      clear hz hcs hx0 hext
      have HR0 := Lib.hid (Box.new wr 34 #[.string sn, .int .i64 sv, .string sc, .int .i64 sp, .int .i64 sa])
      have HB0 := Lib.hid (HB.out.alloc_ (.cells #[.string sn, .int .i64 sv, .string sc, .int .i64 sp, .int .i64 sa] 34))
      have HM0 := Lib.hid (HM.out.alloc_ (.cells #[.string sn, .int .i64 sv, .string sc, .int .i64 sp, .int .i64 sa] 34))
      have HO0 := Lib.hid (HO.out.below (grow_alloc (grow_refl _) (.cells #[.string sn, .int .i64 sv, .string sc, .int .i64 sp, .int .i64 sa] 34)))
      have hlm := HM.out.lt
      have hO0 := HO.out.at_
      clear HB HM HO
      go_wp2_with fail
      refine (imgIs_any sn sv sc _ HX0.out (HT.out.below (by repeat (first | (with_reducible exact grow_refl _) | (with_reducible assumption) | (with_reducible refine grow_alloc ?_ _) | (with_reducible refine grow_set ?_ (by first | exact Nat.le_refl _ | (simp; done) | (simp; omega) | omega) _) | (with_reducible refine grow_drewN ?_ _) | (with_reducible refine grow_drew ?_) | (with_reducible refine grow_step ?_ (by assumption)) | (with_reducible refine grow_base ?_ (by assumption)))))).mono ?_
      rintro e w2 ⟨rfl, hb2⟩
      have HR2 := Lib.hid (HR0.out.below hb2)
      have HB2_ := Lib.hid (HB0.out.below hb2)
      have HM2 := Lib.hid (HM0.out.below hb2)
      have HO2 := Lib.hid (HO0.out.below hb2)
      have hbw2 : Below w.heap.size w w2 := grow_step (grow_alloc hb _) hb2
      have cM := HM2.out.cell
      have lM := HM2.out.lt
      clear hb2 hb HR0 HB0 HM0 HO0 e0 e1 e2 e3 e4
      go_wp2_with fail
      refine (extend_any y0 y1 y2 y3 y4 y5 y6 y7 (k : Int) (imgM sn sv sc) _).mono ?_
      rintro e w3 ⟨x0, x1, x2, x3, x4, x5, x6, x7, hx, rfl, hb3⟩
      rw [HY.out, HE.out.1] at hx
      rw [HY.out, HE.out.2]
      have HXX3 := Lib.hid hx
      have HR3 := Lib.hid (HR2.out.below hb3)
      have HB3 := Lib.hid (HB2_.out.below hb3)
      have HM3 := Lib.hid (HM2.out.below hb3)
      have HO3 := Lib.hid (HO2.out.below hb3)
      have hbw3 : Below w.heap.size w w3 := grow_step hbw2 hb3
      have lm3 := HM3.out.lt
      have fm3 := HM3.out.frozen
      have cm3 := HM3.out.cell
      clear hb3 hbw2 HR2 HB2_ HM2 HO2 cM lM hx
      have hA : ∀ j, At A1 j → w1.heap.size + 1 ≤ j ∧ j < wr.heap.size := fun j hj => by
        obtain ⟨a, ha, rfl⟩ := hj
        exact hO0 a ha
      have hCA : CellsAt ((((((((((w3.setCell ⟨w1.heap.size, 0, none⟩ (.int .i64 x0)).setCell ⟨w1.heap.size, 1, none⟩ (.int .i64 x1)).setCell ⟨w1.heap.size, 2, none⟩ (.int .i64 x2)).setCell ⟨w1.heap.size, 3, none⟩ (.int .i64 x3)).setCell ⟨w1.heap.size, 4, none⟩ (.int .i64 x4)).setCell ⟨w1.heap.size, 5, none⟩ (.int .i64 x5)).setCell ⟨w1.heap.size, 6, none⟩ (.int .i64 x6)).setCell ⟨w1.heap.size, 7, none⟩ (.int .i64 x7)).alloc (.cells #[.int .i64 x0, .int .i64 x1, .int .i64 x2, .int .i64 x3, .int .i64 x4, .int .i64 x5, .int .i64 x6, .int .i64 x7] 38)).alloc (.cells #[.int .i64 (k : Int), .int .i64 (imgM sn sv sc)] 98)) (some ⟨w3.heap.size + 1, 0, none⟩) (evCells [((k : Int), imgM sn sv sc)]) := by
        have h := CellsAt.new_ (((((((((w3.setCell ⟨w1.heap.size, 0, none⟩ (.int .i64 x0)).setCell ⟨w1.heap.size, 1, none⟩ (.int .i64 x1)).setCell ⟨w1.heap.size, 2, none⟩ (.int .i64 x2)).setCell ⟨w1.heap.size, 3, none⟩ (.int .i64 x3)).setCell ⟨w1.heap.size, 4, none⟩ (.int .i64 x4)).setCell ⟨w1.heap.size, 5, none⟩ (.int .i64 x5)).setCell ⟨w1.heap.size, 6, none⟩ (.int .i64 x6)).setCell ⟨w1.heap.size, 7, none⟩ (.int .i64 x7)).alloc (.cells #[.int .i64 x0, .int .i64 x1, .int .i64 x2, .int .i64 x3, .int .i64 x4, .int .i64 x5, .int .i64 x6, .int .i64 x7] 38)) 98 (evCells [((k : Int), imgM sn sv sc)]) (0, 0)
        have e : (((((((((w3.setCell ⟨w1.heap.size, 0, none⟩ (.int .i64 x0)).setCell ⟨w1.heap.size, 1, none⟩ (.int .i64 x1)).setCell ⟨w1.heap.size, 2, none⟩ (.int .i64 x2)).setCell ⟨w1.heap.size, 3, none⟩ (.int .i64 x3)).setCell ⟨w1.heap.size, 4, none⟩ (.int .i64 x4)).setCell ⟨w1.heap.size, 5, none⟩ (.int .i64 x5)).setCell ⟨w1.heap.size, 6, none⟩ (.int .i64 x6)).setCell ⟨w1.heap.size, 7, none⟩ (.int .i64 x7)).alloc (.cells #[.int .i64 x0, .int .i64 x1, .int .i64 x2, .int .i64 x3, .int .i64 x4, .int .i64 x5, .int .i64 x6, .int .i64 x7] 38)).heap.size = w3.heap.size + 1 := by simp [World.setCell]
        rw [e] at h
        exact h
      have HCA := Lib.hid hCA
      have HA := Lib.hid hA
      clear hCA hA
      go_upto_region 14 with fail
      go_upto_region 15 with (at_builtin; refine app_cells_but rfl _ _ 39 98 rfl Tryd.underlying39 infoEv_ (by decide) (by decide) (w1.heap.size + 1) A1 c1 k (evCells (evK ss k)) rfl (((HO3.out.far8 (by omega) _ _ _ _ _ _ _ _).below (grow_alloc (grow_refl _) _)).below (grow_alloc (grow_refl _) _)) ⟨w3.heap.size + 1, 0, none⟩ 1 1 (evCells [((k : Int), imgM sn sv sc)]) rfl HCA.out (by simp [evCells]) (evCells_one _) (by omega) (by omega) (by simp; omega) ?_; intro A2 c2 k2 w4 hk2 ho2 hb4 ha2)
      obtain rfl : k2 = k + 1 := hk2.out
      have HB4 := Lib.hid ((((HB3.out.far8 (by omega) _ _ _ _ _ _ _ _).alloc_ _).alloc_ _).but hb4 (fun h => by have := HA.out _ h; omega))
      have HM4 := Lib.hid ((((HM3.out.fill8 _ _ _ _ _ _ _ _).alloc_ _).alloc_ _).but hb4 (fun h => by have := HA.out _ h; omega))
      have HR4 := Lib.hid ((((HR3.out.far8 (by omega) _ _ _ _ _ _ _ _).alloc_ _).alloc_ _).but hb4 (fun h => by have := HA.out _ h; omega))
      have hbw4 : Below w.heap.size w w4 := by
        refine Below.trans ?_ (hb4.below (by simp [World.setCell]; omega) (fun j h => by have := HA.out _ h; omega))
        exact (by repeat (first | (with_reducible exact grow_refl _) | (with_reducible assumption) | (with_reducible refine grow_alloc ?_ _) | (with_reducible refine grow_set ?_ (by first | exact Nat.le_refl _ | (simp; done) | (simp; omega) | omega) _) | (with_reducible refine grow_drewN ?_ _) | (with_reducible refine grow_drew ?_) | (with_reducible refine grow_step ?_ (by assumption)) | (with_reducible refine grow_base ?_ (by assumption))))
      have HO4 : Hid (OwnC w4 (w1.heap.size + 1) 98 2 A2 c2 (k + 1) (evCells (evK ss (k + 1)))) := Lib.hid (by rw [evK_step, evCells_append, HZ1.out]; exact ho2)
      have cR := HR4.out.cell
      have lR := HR4.out.lt
      clear ho2 hb4 ha2 hk2 HCA HR3 HB3 HM3 HO3 lm3 fm3 cm3 hbw3 HA
      by_cases hC : signE q sn sv sc sp sa = 0
      · have HC0 := Lib.hid hC
        have HG2 : Hid (∀ i, i < k + 1 → sgC q (ss.getD i noSgn) = 0) := Lib.hid (fun i hi => by
          rcases Nat.lt_or_ge i k with h | h
          · exact HG.out i h
          · obtain rfl : i = k := by omega
            rw [HZ1.out]; exact HC0.out)
        clear hC
        go_wp2_with fail
        refine (signCheck_any q sn sv sc sp sa _ (by omega) (by omega) (HT.out.below hbw4)).mono ?_
        rintro e w5 ⟨rfl, hb5⟩
        rw [HC0.out]
        go_wp2_with fail
        go_roundw
        case rel => exact ⟨k + 1, k + 1, A2, c2, x0, x1, x2, x3, x4, x5, x6, x7, by omega, rfl, by go_num, Lib.hid rfl, HXX3, Lib.hid (HO4.out.below hb5), Lib.hid (HB4.out.below hb5), Lib.hid (HM4.out.below hb5), HG2, (by repeat (first | (with_reducible exact grow_refl _) | (with_reducible assumption) | (with_reducible refine grow_alloc ?_ _) | (with_reducible refine grow_set ?_ (by first | exact Nat.le_refl _ | (simp; done) | (simp; omega) | omega) _) | (with_reducible refine grow_drewN ?_ _) | (with_reducible refine grow_drew ?_) | (with_reducible refine grow_step ?_ (by assumption)) | (with_reducible refine grow_base ?_ (by assumption))))⟩
        case measure => simp [intOf]; omega
      · obtain ⟨E, hE⟩ : ∃ E, signE q sn sv sc sp sa = E := ⟨_, rfl⟩
        rw [hE] at hC
        have t : (E != 0) = true := by simp [hC]
        have HE0 := Lib.hid hE
        have HI : Hid (BootIs q ss (k + 1) k) := Lib.hid ⟨⟨by omega, HG.out⟩, Or.inr ⟨hlt, rfl, by rw [HZ1.out]; exact fun h => hC (hE.symm.trans h)⟩⟩
        clear hE hC
        go_wp2_with fail
        refine (signCheck_any q sn sv sc sp sa _ (by omega) (by omega) (HT.out.below hbw4)).mono ?_
        rintro e w5 ⟨rfl, hb5⟩
        rw [HE0.out]
        have B5 := HB4.out.below hb5
        have M5 := HM4.out.below hb5
        have cB := B5.cell
        have lB := B5.lt
        have fB := B5.frozen
        have cM := M5.cell
        have lM := M5.lt
        have HB5 := Lib.hid B5
        have HO5 := Lib.hid (HO4.out.below hb5)
        clear B5 M5
        go_wp2_with fail
        refine bodyPost_ret (v := .tuple #[.agg #[.int .i64 x0, .int .i64 x1, .int .i64 x2, .int .i64 x3, .int .i64 x4, .int .i64 x5, .int .i64 x6, .int .i64 x7], .slice A2 (evK ss (k + 1)).length c2, .int .i64 k, errV 0]) ?_ rfl ?_
        · rw [evK_len]
          exact res4b Tryd.results10 rfl (HB5.out.fill8 _ _ _ _ _ _ _ _) Tryd.underlying38 rfl (by kernel_rfl)
        · exact ⟨k + 1, k, A2, c2, _, x0, x1, x2, x3, x4, x5, x6, x7, HI.out, rfl, HXX3.out, rfl, EvsAt.of_cells (HO5.out.far8 (by omega) _ _ _ _ _ _ _ _).cells, (fun a ha => by have := (HO5.out.at_ a ha).1; omega), (by repeat (first | (with_reducible exact grow_refl _) | (with_reducible assumption) | (with_reducible refine grow_alloc ?_ _) | (with_reducible refine grow_set ?_ (by first | exact Nat.le_refl _ | (simp; done) | (simp; omega) | omega) _) | (with_reducible refine grow_drewN ?_ _) | (with_reducible refine grow_drew ?_) | (with_reducible refine grow_step ?_ (by assumption)) | (with_reducible refine grow_base ?_ (by assumption))))⟩
    · have g0 : ¬ (k : Int) < (ss.length : Int) := by omega
      obtain rfl : k = ss.length := by omega
      have HI : Hid (BootIs q ss ss.length ss.length) := Lib.hid ⟨⟨Nat.le_refl _, HG.out⟩, Or.inl ⟨rfl, rfl⟩⟩
      have cB := HB.out.cell
      have lB := HB.out.lt
      have fB := HB.out.frozen
      have cM := HM.out.cell
      have lM := HM.out.lt
      go_wp2_with fail
      refine bodyPost_ret (v := .tuple #[.agg #[.int .i64 y0, .int .i64 y1, .int .i64 y2, .int .i64 y3, .int .i64 y4, .int .i64 y5, .int .i64 y6, .int .i64 y7], .slice A1 (evK ss ss.length).length c1, .int .i64 ss.length, errV 0]) ?_ rfl ?_
      · rw [evK_len]
        exact res4b Tryd.results10 rfl (HB.out.fill8 _ _ _ _ _ _ _ _) Tryd.underlying38 rfl (by kernel_rfl)
      · exact ⟨ss.length, ss.length, A1, c1, _, y0, y1, y2, y3, y4, y5, y6, y7, HI.out, rfl, HY.out, rfl, EvsAt.of_cells (HO.out.far8 (by omega) _ _ _ _ _ _ _ _).cells, (fun a ha => by have := (HO.out.at_ a ha).1; omega), (by repeat (first | (with_reducible exact grow_refl _) | (with_reducible assumption) | (with_reducible refine grow_alloc ?_ _) | (with_reducible refine grow_set ?_ (by first | exact Nat.le_refl _ | (simp; done) | (simp; omega) | omega) _) | (with_reducible refine grow_drewN ?_ _) | (with_reducible refine grow_drew ?_) | (with_reducible refine grow_step ?_ (by assumption)) | (with_reducible refine grow_base ?_ (by assumption))))⟩

theorem bootRun_any (q : Int) (A : Option Addr) (ss : List Sgn) (c : Nat) (w : World) (hS : SgnsAt w A ss)
    (hss : ∀ i, i < ss.length → (ss.getD i noSgn).1.size ≤ 140737488351232 ∧ (ss.getD i noSgn).2.2.1.size ≤ 140737488351232) (hok : bootE q ss = 0) (ht : TabT w) :
    Calls Tryd.prog 10 #[.int .i64 q, .slice A ss.length c] w (BootPost q ss w) :=
  (bootRun_fr q A ss c w hS hss hok ht).mono fun e w' ⟨m, n, A2, c2, es, y0, y1, y2, y3, y4, y5, y6, y7, h1, h2, h3, h4, h5, _, h7⟩ => ⟨m, n, A2, c2, es, y0, y1, y2, y3, y4, y5, y6, y7, h1, h2, h3, h4, h5, h7⟩

end Go.Proofs.YtdedllfgeekogaaDoor
