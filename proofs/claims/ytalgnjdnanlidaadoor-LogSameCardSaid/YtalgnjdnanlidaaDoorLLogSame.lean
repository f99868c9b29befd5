/- LogSame: what changes nothing leaves no byte. -/
import Derived.Test.YtalgnjdnanlidaaDoorRows
import Derived.Test.YtalgnjdnanlidaaDoorOpen
import Derived.Test.YtalgnjdnanlidaaDoorLogA
import Derived.Test.YtalgnjdnanlidaaDoorLiftT
import Derived.Test.YtalgnjdnanlidaaDoorLiftS
import Derived.WalkKit
import Derived.WalkSpells
import Derived.Lib.Hide
namespace Go.Proofs.YtalgnjdnanlidaaDoor
open Go.ChangeShapes Go.WideShapes Go.ChangeAt Go.RowKit
set_option linter.unusedVariables false
set_option maxRecDepth 100000

set_option maxHeartbeats 300000 in
theorem logSame_walk (w : World) (s : ByteArray) (v : Int) (hs : s.size ≤ 140737488351232) (iv : I64 v) (hg : TabT w) :
    Calls Tryd.prog 3 #[.string s, .int .i64 v] w fun e w' => e = .returned (.bool true) ∧ Below w.heap.size w w' := by
  have en := fun k w => err_neq k w
  have ee := fun k w => err_eql k w
  have gn := fun o k w => err_guard_neq o k w
  have ge := fun o k w => err_guard_eql o k w
  have HG := Lib.hid hg
  clear hg
  cases hok : okName s
  · go_enter Tryd.func3, Tryd.ntmps3
    go_wp2_with fail
    refine (logNew_any _).mono ?_
    rintro e w1 ⟨b, g, rfl, hC, hB, hb1, hb2, hg1, hg2, hg3, hbw⟩
    have HC := Lib.hid hC
    have HB := Lib.hid hB
    clear hC hB
    go_wp2_with fail
    refine (logRaise_bad w1 g b _ 0 0 s v 0 0 0 _ _ HB.out HC.out hok hs).mono ?_
    rintro e w2 ⟨rfl, hb3⟩
    have HC2 := Lib.hid (HC.out.below hb3)
    have HB2 := Lib.hid (HB.out.below hb3)
    have hbw2 : Below w.heap.size w w2 := grow_step hbw hb3
    clear hb3 HC HB
    go_wp2_with fail
    refine (logBytes_any w2 g _ _ 0 0 _ _ HB2.out).mono ?_
    rintro e w' ⟨rfl, rfl⟩
    go_wp2_with fail
    refine (logRaise_bad w2 g b _ 0 0 s v 0 0 0 _ _ HB2.out HC2.out hok hs).mono ?_
    rintro e w3 ⟨rfl, hb4⟩
    have HB3 := Lib.hid (HB2.out.below hb4)
    have hbw3 : Below w.heap.size w w3 := grow_step hbw2 hb4
    clear hb4 HC2 HB2
    go_wp2_with (go_at_call 9; refine (logBytes_any w3 g _ _ 0 0 _ _ HB3.out).mono ?_; rintro e w' ⟨rfl, rfl⟩)
    go_ret
    exact ⟨rfl, hbw3⟩
  by_cases hv : 0 < v ∧ v ≤ 1000
  rotate_left
  · have hgv : ¬ (0 : Int) < gOf v := by
      unfold gOf
      split
      · rename_i h
        have := of_decide_eq_true h
        omega
      · decide
    have ho0 : okE v = 0 ∧ v = 0 ∨ okE v = 1 := by
      unfold okE
      split
      · rename_i h
        have := of_decide_eq_true h
        exact Or.inl ⟨rfl, by omega⟩
      · exact Or.inr rfl
    have HGV := Lib.hid hgv
    clear hv hgv
    have HV0 : Hid (okE v = 0 → v = 0) := Lib.hid (fun h => by omega)
    rcases (show okE v = 0 ∨ okE v = 1 by omega) with hE | hE
    all_goals
      have HE := Lib.hid hE
      clear ho0
      go_enter Tryd.func3, Tryd.ntmps3
      go_wp2_with fail
      refine (logNew_any _).mono ?_
      rintro e w1 ⟨b, g, rfl, hC, hB, hb1, hb2, hg1, hg2, hg3, hbw⟩
      have HC := Lib.hid (OneIs.zero s hC)
      have HB := Lib.hid hB
      clear hC hB hE
      go_wp2_with fail
      have hr1 := logRaise_no w1 g b { data := #[] } 0 0 s v 0 0 HB.out HC.out hok (by omega) (fun h => by have := HGV.out; omega) (by omega) hg2
      refine hr1.mono ?_
      rintro e w2 ⟨rfl, hO, hB2, hk2⟩
      rw [HE.out]
      have HC2 := Lib.hid hO
      have HB2 := Lib.hid hB2
      have hbw2 : Below w.heap.size w w2 := hbw.trans (hk2.below hbw.size (by intro j h; omega))
      clear hO hB2 hk2 HC HB
      go_wp2_with fail
      refine (logBytes_any w2 g _ _ 0 0 _ _ HB2.out).mono ?_
      rintro e w' ⟨rfl, rfl⟩
      go_wp2_with fail
      have hr2 := logRaise_no w2 g b { data := #[] } 0 0 s v 0 (0 + 1) HB2.out HC2.out hok (by omega) (fun h => by have := HGV.out; omega) (by omega) hg2
      refine hr2.mono ?_
      rintro e w3 ⟨rfl, hO, hB3, hk3⟩
      rw [HE.out]
      have HB3 := Lib.hid hB3
      have hbw3 : Below w.heap.size w w3 := hbw2.trans (hk3.below hbw2.size (by intro j h; omega))
      clear hO hB3 hk3 HC2 HB2
      try have hv0 := HV0.out HE.out
      go_wp2_with (go_at_call 9; refine (logBytes_any w3 g _ _ 0 0 _ _ HB3.out).mono ?_; rintro e w' ⟨rfl, rfl⟩)
      go_ret
      exact ⟨rfl, hbw3⟩
  obtain ⟨h0, h1⟩ := hv
  have hok1 : okV v = true := decide_eq_true (by omega)
  have HGO : Hid (gOf v = v) := Lib.hid (by unfold gOf; rw [if_pos hok1])
  have HOE : Hid (okE v = 0) := Lib.hid (by unfold okE; rw [if_pos hok1])
  have HRS : Hid (2 ≤ (({ data := #[] } : ByteArray) ++ recS s v).size) := Lib.hid (by
    rw [ByteArray.size_append, recS_size]; omega)
  clear hok1
  go_enter Tryd.func3, Tryd.ntmps3
  go_wp2_with fail
  refine (logNew_any _).mono ?_
  rintro e w1 ⟨b, g, rfl, hC, hB, hb1, hb2, hg1, hg2, hg3, hbw⟩
  have HC := Lib.hid (OneIs.zero s hC)
  have HB := Lib.hid hB
  have HT := Lib.hid (show ∀ w', But (fun k => k = b) w1 w' → TabT w' from fun w' hk => HG.out.below (hbw.trans (hk.below hbw.size (by intro j h; omega))))
  clear hC hB
  go_wp2_with fail
  have hr1 := logRaise_first w1 g b s v 0 HB.out HC.out hok (by omega) h0 h1 hg2 hg3 (HG.out.below hbw) HT.out
  refine hr1.mono ?_
  rintro e w2 ⟨rfl, hO, hB2, hk2⟩
  obtain ⟨X, hX⟩ : ∃ X, ({ data := #[] } : ByteArray) ++ recS s v = X := ⟨_, rfl⟩
  rw [hX] at hB2 HRS
  have HC2 := Lib.hid hO
  have HB2 := Lib.hid hB2
  have hbw2 : Below w.heap.size w w2 := hbw.trans (hk2.below hbw.size (by intro j h; omega))
  clear hO hB2 hk2 HC HB hX HT
  go_wp2_with fail
  refine (logBytes_any w2 g _ _ 1 0 _ _ HB2.out).mono ?_
  rintro e w' ⟨rfl, rfl⟩
  go_wp2_with fail
  have hr2 := logRaise_no w2 g b X 1 0 s v v (0 + 1) HB2.out HC2.out hok (by omega) (by rw [HGO.out]; omega) (by omega) hg2
  refine hr2.mono ?_
  rintro e w3 ⟨rfl, hO, hB3, hk3⟩
  rw [HOE.out]
  have HB3 := Lib.hid hB3
  have hbw3 : Below w.heap.size w w3 := hbw2.trans (hk3.below hbw2.size (by intro j h; omega))
  have h2 : (2 : Int) ≤ (X.size : Int) := by have := HRS.out; omega
  clear hO hB3 hk3 HC2 HB2 HRS
  go_wp2_with (go_at_call 9; refine (logBytes_any w3 g _ _ 1 0 _ _ HB3.out).mono ?_; rintro e w' ⟨rfl, rfl⟩)
  go_ret
  exact ⟨by simp, hbw3⟩

set_option maxRecDepth 100000 in
theorem logSame_walks (H : Type) (enc : TypeId × Value → H) : WalksD enc Tryd.prog TabT 3 Tryd.f3 := by
  intro W base args ds p hval hA hlt hsz hsh hdoor
  have hsz0 := hsz
  rw [Tryd.params3] at hA hval
  obtain ⟨v0, vs0, d0, ds0, p0, q0, hargs, rfl, rfl, h0, r0⟩ := trodAll_cons hA
  obtain ⟨v1, vs1, d1, ds1, p1, q1, rfl, rfl, rfl, h1, r1⟩ := trodAll_cons r0
  obtain ⟨rfl, rfl, rfl⟩ := trodAll_nil r1
  obtain rfl : args = #[v0, v1] := by cases args; simp_all
  obtain ⟨a0, rfl, w0⟩ := op_str (hval 0 9 v0 rfl rfl) h0 (w_each hsz 0 9 _ (by rw [Tryd.params3]; rfl) rfl)
  obtain ⟨a1, rfl, w1⟩ := op_int (hval 1 3 v1 rfl rfl) h1
  exact logSame_walk W a0 a1 w0 w1 hdoor

set_option maxRecDepth 100000 in
theorem logSame_lifted (os : Os) (started : os.Started) (H : Type) (enc : TypeId × Value → H) :
    ReturnsInHanded {} Tryd.checked os 3 .any (fun w args => (Rows.logSameSpec.pre enc Tryd.checked.prog Tryd.f3 [] false w args ∧ laidMetH Tryd.checked.prog LaidTS w) ∧ sizedMet enc Tryd.checked.prog Tryd.f3 (OpenSpec.ofChange Rows.logSameSpec) false w args) (Rows.logSameSpec.post enc Tryd.checked.prog Tryd.f3 false true false false) :=
  returns_of_walkD (C := Tryd.checked) (s := Rows.logSameSpec) (L := LaidTS) (D := TabT) own started (by kernel_rfl) Tryd.func3
    (ChangeSpec.witness_at (enc := enc) (C := Tryd.checked) (os := os) (X := fun w _ => laidMetH Tryd.prog LaidTS w) false (laidWorldTS os) #[.string ⟨#[]⟩, .int .i64 0] 8 rfl (by kernel_rfl) (by kernel_rfl) (by kernel_rfl) (by kernel_rfl) (by kernel_rfl) (laidWorldTS_met os _))
    (fun W h => tabTS_of_laid h) laidOut (by kernel_rfl) rfl Tryd.underlying4 rfl (fun ds h => by match ds, h with | [_, _], _ => rfl) (logSame_walks H enc)

theorem logSame_bare : Rows.LogSameSaid :=
  OpenClaim.holds_of_wide 3 Tryd.f3 rfl rfl rfl rfl rfl rfl rfl ⟨rfl, rfl, rfl, rfl, rfl⟩ rfl rfl rfl rfl rfl (by kernel_rfl) Tryd.func3 (by kernel_rfl)
    (of_decide_eq_true (by kernel_rfl)) (by unfold Func.isWrapper; rw [if_neg (of_decide_eq_false (by kernel_rfl))]; exact ⟨rfl, rfl⟩)
    (fun os started H enc _ => logSame_lifted os started H enc)

theorem logSame_holds : Rows.LogSameCardSaid :=
  Claim7.holds_tied_plain_at .later [] [.data, .data, .data, .sentinel, .sentinel] true Rows.logSameCard.stood.harness true
    logSame_bare (fun _ h => by cases h) (by kernel_rfl) (fun _ h => by cases h) logSame_row_tie rfl ⟨rfl, rfl⟩ (by kernel_rfl) rfl
    (fun f fn hf hfn => by
      obtain rfl : f = 3 := Option.some.inj ((show Tryd.prog.funcNamed "bootstair/stairlaw4.LogSame" = some 3 by kernel_rfl).symm.trans hf) |>.symm
      obtain rfl : fn = Tryd.f3 := (Option.some.inj (Tryd.func3.symm.trans hfn)).symm
      exact ⟨by kernel_rfl, fun j t ht => by
        have hm : t ∈ Tryd.f3.params.toList := by simpa using Array.mem_of_getElem? ht
        have hall : (Tryd.f3.params.toList.all fun u => !Tryd.prog.wantsStandIn u) = true := by kernel_rfl
        exact (show Tryd.prog.wantsStandIn t = false by simpa using List.all_eq_true.1 hall t hm)⟩)
    (by kernel_rfl)

end Go.Proofs.YtalgnjdnanlidaaDoor
