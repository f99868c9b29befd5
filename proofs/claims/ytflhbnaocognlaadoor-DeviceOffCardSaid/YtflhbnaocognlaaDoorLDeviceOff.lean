/- DeviceOff: ahead of its start it tells nothing. The listed package variables hold what the program's text lays. -/
import Derived.Test.YtflhbnaocognlaaDoorRows
import Derived.Test.YtflhbnaocognlaaDoorOpen
import Derived.Test.YtflhbnaocognlaaDoorOpI
import Derived.Test.YtflhbnaocognlaaDoorNum
import Derived.Test.YtflhbnaocognlaaDoorBase
import Derived.Test.YtflhbnaocognlaaDoorKey
import Derived.Test.YtflhbnaocognlaaDoorOpE
import Derived.Test.YtflhbnaocognlaaDoorEvent
import Derived.Test.YtflhbnaocognlaaDoorImg
import Derived.Test.YtflhbnaocognlaaDoorImg2
import Derived.Test.YtflhbnaocognlaaDoorSign2
import Derived.Test.YtflhbnaocognlaaDoorFoot
import Derived.Test.YtflhbnaocognlaaDoorLiftT
import Derived.Test.YtflhbnaocognlaaDoorSlot
import Derived.Test.YtflhbnaocognlaaDoorSlot2
import Derived.Test.YtflhbnaocognlaaDoorSInv
import Derived.Test.YtflhbnaocognlaaDoorCount3
import Derived.Test.YtflhbnaocognlaaDoorQuietC
import Derived.Test.YtflhbnaocognlaaDoorDev
import Derived.Test.YtflhbnaocognlaaDoorTold
import Derived.Test.YtflhbnaocognlaaDoorBds
import Derived.Test.YtflhbnaocognlaaDoorLiftD
import Derived.WalkKit
import Derived.WalkSpells
import Derived.Lib.Hide
import Derived.Deep.DeepCutAuto
import Derived.Deep.RegionHeld3
import Derived.Deep.QuietTactic
import Derived.BigQuiet
import Derived.RegionTactic
import Derived.BigRegion
namespace Go.Proofs.YtflhbnaocognlaaDoor
open Go.ChangeShapes Go.WideShapes Go.ChangeAt Go.RowKit
set_option linter.unusedVariables false
set_option maxRecDepth 100000

theorem eqIm (n : ByteArray) (v : Int) (c : ByteArray) (hn : n.size ≤ 140737488351232) (hc : c.size ≤ 140737488351232) (iv : I64 v) (w : World) : (binOp .eql 23 (.agg #[.string n, .int .i64 v, .string c]) (.agg #[.string n, .int .i64 v, .string c])).run Tryd.prog w = .ok (.bool true) w := by
  have k := imLits n v c hn hc iv
  have f : Value.formed Tryd.prog 23 (.agg #[.string n, .int .i64 v, .string c]) = true := by
    have c1 : Program.cellsOf Tryd.prog 23 = 3 := by kernel_rfl
    simp [Value.formed, Tryd.underlying23, c1]
  obtain ⟨r, hr, hi⟩ := run_equalIn_deep (P := Tryd.prog) 9998 2 23 (by kernel_rfl) w 2 2 (.agg #[.string n, .int .i64 v, .string c]) (.agg #[.string n, .int .i64 v, .string c]) _ _ f f (by simpa [Value.cells] using k) (by simpa [Value.cells] using k)
  rw [hi.2 rfl] at hr
  have hr' : (Op.equalIn 10000 23 (.agg #[.string n, .int .i64 v, .string c]) (.agg #[.string n, .int .i64 v, .string c])).run Tryd.prog w = .ok true w := hr
  rw [run_eql_struct, hr']; rfl

set_option maxHeartbeats 4000000 in
theorem deviceOff_walk (w : World) (root x : Int) (n : ByteArray) (v : Int) (c : ByteArray) (p a : Int) (k : Int) (ir : I64 root) (ix : I64 x) (iv : I64 v) (hn : n.size ≤ 140737488351232) (hc : c.size ≤ 140737488351232) (ip : I64 p) (ia : I64 a) (ik : I64 k) (hg : TabTD w) :
    Calls Tryd.prog 4 #[.int .i64 root, .int .i64 x, .agg #[.string n, .int .i64 v, .string c, .int .i64 p, .int .i64 a], .int .i64 k] w fun e w' => e = .returned (.bool true) ∧ Below w.heap.size w w' := by
  have en := fun k w => err_neq k w
  have ee := fun k w => err_eql k w
  have gn := fun o k w => err_guard_neq o k w
  have ge := fun o k w => err_guard_eql o k w
  have HG := Lib.hid hg.2
  have HT := Lib.hid hg.1
  have HS0 := Lib.hid (Box.new w 27 #[.string n, .int .i64 v, .string c, .int .i64 p, .int .i64 a])
  clear hg
  cases h1 : okIn root
  · have hr := okIn_no h1
    have HN := Lib.hid (fun w => devNew_key root x n v c p a w (Or.inl h1))
    by_cases r1 : root < 1
    · clear hr
      go_enter Tryd.func4, Tryd.ntmps4
      go_wp2_with fail
      refine (HN.out _).mono ?_
      rintro e w1 ⟨rfl, hb1⟩
      go_wp2_with fail
      go_ret
      exact ⟨rfl, (by repeat (first | (with_reducible exact grow_refl _) | (with_reducible assumption) | (with_reducible refine grow_alloc ?_ _) | (with_reducible refine grow_set ?_ (by first | exact Nat.le_refl _ | (simp; done) | (simp; omega) | omega) _) | (with_reducible refine grow_drewN ?_ _) | (with_reducible refine grow_drew ?_) | (with_reducible refine grow_step ?_ (by assumption)) | (with_reducible refine grow_base ?_ (by assumption))))⟩
    · have r2 : 1542 < root := by omega
      clear hr
      go_enter Tryd.func4, Tryd.ntmps4
      go_wp2_with fail
      refine (HN.out _).mono ?_
      rintro e w1 ⟨rfl, hb1⟩
      go_wp2_with fail
      go_ret
      exact ⟨rfl, (by repeat (first | (with_reducible exact grow_refl _) | (with_reducible assumption) | (with_reducible refine grow_alloc ?_ _) | (with_reducible refine grow_set ?_ (by first | exact Nat.le_refl _ | (simp; done) | (simp; omega) | omega) _) | (with_reducible refine grow_drewN ?_ _) | (with_reducible refine grow_drew ?_) | (with_reducible refine grow_step ?_ (by assumption)) | (with_reducible refine grow_base ?_ (by assumption))))⟩
  have hr := okIn_yes h1
  have r1 : ¬ root < 1 := by omega
  have r2 : ¬ 1542 < root := by omega
  cases h2 : okSecret x
  · have hx := okSecret_no h2
    have HN := Lib.hid (fun w => devNew_key root x n v c p a w (Or.inr h2))
    by_cases x1 : x < 1
    · clear hx hr
      go_enter Tryd.func4, Tryd.ntmps4
      go_wp2_with fail
      refine (HN.out _).mono ?_
      rintro e w1 ⟨rfl, hb1⟩
      go_wp2_with fail
      go_ret
      exact ⟨by simp, (by repeat (first | (with_reducible exact grow_refl _) | (with_reducible assumption) | (with_reducible refine grow_alloc ?_ _) | (with_reducible refine grow_set ?_ (by first | exact Nat.le_refl _ | (simp; done) | (simp; omega) | omega) _) | (with_reducible refine grow_drewN ?_ _) | (with_reducible refine grow_drew ?_) | (with_reducible refine grow_step ?_ (by assumption)) | (with_reducible refine grow_base ?_ (by assumption))))⟩
    · have x2 : 256 < x := by omega
      clear hx hr
      go_enter Tryd.func4, Tryd.ntmps4
      go_wp2_with fail
      refine (HN.out _).mono ?_
      rintro e w1 ⟨rfl, hb1⟩
      go_wp2_with fail
      go_ret
      exact ⟨by simp, (by repeat (first | (with_reducible exact grow_refl _) | (with_reducible assumption) | (with_reducible refine grow_alloc ?_ _) | (with_reducible refine grow_set ?_ (by first | exact Nat.le_refl _ | (simp; done) | (simp; omega) | omega) _) | (with_reducible refine grow_drewN ?_ _) | (with_reducible refine grow_drew ?_) | (with_reducible refine grow_step ?_ (by assumption)) | (with_reducible refine grow_base ?_ (by assumption))))⟩
  have hx := okSecret_yes h2
  have x1 : ¬ x < 1 := by omega
  have x2 : ¬ 256 < x := by omega
  clear hr hx
  by_cases hi : imgE n v c = 0
  rotate_left
  · have HN := Lib.hid (fun w => devNew_img root x n v c p a w h1 h2 hn hc hi)
    obtain ⟨E, hE⟩ : ∃ E, imgE n v c = E := ⟨_, rfl⟩
    have HE := Lib.hid hE
    rw [hE] at HN hi
    have t : (E != 0) = true := by simp [hi]
    clear hE hi h1 h2
    go_enter Tryd.func4, Tryd.ntmps4
    go_wp2_with fail
    refine (HN.out _).mono ?_
    rintro e w1 ⟨rfl, hb1⟩
    have S1 := HS0.out.below hb1
    have cS := S1.cell
    have lS := S1.lt
    have hbw1 : Below w.heap.size w w1 := grow_step (grow_alloc (grow_refl _) _) hb1
    clear S1 hb1
    go_wp2_with fail
    refine (imgCheck_any n v c _ (by omega) (by omega)).mono ?_
    rintro e w2 ⟨rfl, hb2⟩
    rw [HE.out]
    go_wp2_with fail
    go_ret
    exact ⟨by simp, (by repeat (first | (with_reducible exact grow_refl _) | (with_reducible assumption) | (with_reducible refine grow_alloc ?_ _) | (with_reducible refine grow_set ?_ (by first | exact Nat.le_refl _ | (simp; done) | (simp; omega) | omega) _) | (with_reducible refine grow_drewN ?_ _) | (with_reducible refine grow_drew ?_) | (with_reducible refine grow_step ?_ (by assumption)) | (with_reducible refine grow_base ?_ (by assumption))))⟩
  have HI := Lib.hid hi
  have HN := Lib.hid (fun w => devNew_yes root x n v c p a w h1 h2 hn hc hi)
  have q1 := fun w => eqIm n v c hn hc iv w
  have q2 := fun o q w => guardIm (.string n) (.int .i64 v) (.string c) (.string n) (.int .i64 v) (.string c) .eql o q w
  have hT0 := HT.out.below (grow_alloc (grow_refl w) (.cells #[.string n, .int .i64 v, .string c, .int .i64 p, .int .i64 a] 27))
  have HT0 := Lib.hid hT0
  clear hi h1 h2 hT0 r1 r2 x1 x2
  go_enter Tryd.func4, Tryd.ntmps4
  go_wp2_with fail
  refine (HN.out _).mono ?_
  rintro e w1 ⟨gd, b, gs, rfl, hD1, hB1, hg0, hgs, hb1⟩
  have HD1 := Lib.hid hD1
  have HB1 := Lib.hid hB1
  clear hD1 hB1
  go_wp2_with fail
  refine (devTell_off root x _ gd b gs HD1.out 1 k 1).mono ?_
  rintro e w2 ⟨rfl, hb2⟩
  have HD2 := Lib.hid ((HD1.out.below hb2).alloc_ (.cells #[.int .i64 0, .int .i64 0, .int .i64 0, .int .i64 0, .int .i64 0] 44))
  have HB2 := Lib.hid ((HB1.out.below hb2).alloc_ (.cells #[.int .i64 0, .int .i64 0, .int .i64 0, .int .i64 0, .int .i64 0] 44))
  have b2 := grow_alloc (grow_step hb1 hb2) (.cells #[.int .i64 0, .int .i64 0, .int .i64 0, .int .i64 0, .int .i64 0] 44)
  clear hb1 hb2 HD1 HB1
  go_wp2_with fail
  refine (devRuns_off root x _ gd b gs HD2.out).mono ?_
  rintro e w3 ⟨rfl, hb3⟩
  have HD3 := Lib.hid ((HD2.out.below hb3).alloc_ (.cells #[.string ⟨#[]⟩, .int .i64 0, .string ⟨#[]⟩] 23))
  have HB3 := Lib.hid ((HB2.out.below hb3).alloc_ (.cells #[.string ⟨#[]⟩, .int .i64 0, .string ⟨#[]⟩] 23))
  have b3 := grow_alloc (grow_step b2 hb3) (.cells #[.string ⟨#[]⟩, .int .i64 0, .string ⟨#[]⟩] 23)
  clear hb3 HD2 HB2 b2
  go_wp2_with fail
  refine (devGood_off root x _ gd b gs HD3.out).mono ?_
  rintro e w4 ⟨rfl, hb4⟩
  have HD4 := Lib.hid (HD3.out.below hb4)
  have HB4 := Lib.hid (HB3.out.below hb4)
  have b4 := grow_step b3 hb4
  clear hb4 HD3 HB3 b3
  go_wp2_with fail
  refine (devStart_first root x n v c p a (w.alloc (.cells #[.string n, .int .i64 v, .string c, .int .i64 p, .int .i64 a] 27)) _ gd b gs HD4.out HB4.out hgs b4 hg0 HI.out HT0.out).mono ?_
  rintro e w5 ⟨rfl, ⟨ev, y0, y1, y2, y3, y4, y5, y6, y7, hD5⟩, b5⟩
  have HD5 := Lib.hid hD5
  clear hD5 HD4 HB4 b4
  go_wp2_with fail
  refine (devRuns_on root x n v c _ gd b gs ev y0 y1 y2 y3 y4 y5 y6 y7 HD5.out).mono ?_
  rintro e w6 ⟨rfl, hb6⟩
  have HX6 := Lib.hid (Box.new w6 23 #[.string n, .int .i64 v, .string c])
  have HS6 := Lib.hid (((HS0.out.below b5).below hb6).alloc_ (.cells #[.string n, .int .i64 v, .string c] 23))
  have hbw6 : Below w.heap.size w (w6.alloc (.cells #[.string n, .int .i64 v, .string c] 23)) := grow_alloc (grow_step (grow_step (grow_alloc (grow_refl _) _) b5) hb6) _
  clear hb6 HD5
  go_wp2_with fail
  refine (error_any 6 6 _ (HG.out.below hbw6) (i64_small (by decide) (by decide))).mono ?_
  rintro e w7 ⟨rfl, hb7⟩
  rw [show ((6 : Int) == 6) = true from rfl]
  have hbw7 : Below w.heap.size w w7 := grow_step hbw6 hb7
  have HX7 := Lib.hid (HX6.out.below hb7)
  have HS7 := Lib.hid (HS6.out.below hb7)
  clear hb7 HX6 HS6 hbw6
  go_wp2_with fail
  refine (error_any 6 6 _ (HG.out.below hbw7) (i64_small (by decide) (by decide))).mono ?_
  rintro e w8 ⟨rfl, hb8⟩
  rw [show ((6 : Int) == 6) = true from rfl]
  have hbw8 : Below w.heap.size w w8 := grow_step hbw7 hb8
  have HX8 := Lib.hid (HX7.out.below hb8)
  have HS8 := Lib.hid (HS7.out.below hb8)
  clear hb8 HX7 HS7 hbw7
  go_wp2_with fail
  refine (error_any 6 6 _ (HG.out.below hbw8) (i64_small (by decide) (by decide))).mono ?_
  rintro e w9 ⟨rfl, hb9⟩
  rw [show ((6 : Int) == 6) = true from rfl]
  have hbw9 : Below w.heap.size w w9 := grow_step hbw8 hb9
  have X9 := HX8.out.below hb9
  have S9 := HS8.out.below hb9
  have cX := X9.cell
  have lX := X9.lt
  have cS := S9.cell
  have lS := S9.lt
  clear hb9 HX8 HS8 hbw8 X9 S9
  go_wp2_with fail
  go_ret
  exact ⟨rfl, hbw9⟩

set_option maxRecDepth 100000 in
theorem deviceOff_walks (H : Type) (enc : TypeId × Value → H) : WalksD enc Tryd.prog TabTD 4 Tryd.f4 := by
  intro W base args ds p hval hA hlt hsz hsh hdoor
  have hsz0 := hsz
  rw [Tryd.params4] at hA hval
  obtain ⟨v0, vs0, d0, ds0, p0, q0, hargs, rfl, rfl, h0, r0⟩ := trodAll_cons hA
  obtain ⟨v1, vs1, d1, ds1, p1, q1, rfl, rfl, rfl, h1, r1⟩ := trodAll_cons r0
  obtain ⟨v2, vs2, d2, ds2, p2, q2, rfl, rfl, rfl, h2, r2⟩ := trodAll_cons r1
  obtain ⟨v3, vs3, d3, ds3, p3, q3, rfl, rfl, rfl, h3, r3⟩ := trodAll_cons r2
  obtain ⟨rfl, rfl, rfl⟩ := trodAll_nil r3
  obtain rfl : args = #[v0, v1, v2, v3] := by cases args; simp_all
  obtain ⟨a0, rfl, w0⟩ := op_int (hval 0 3 v0 rfl rfl) h0
  obtain ⟨a1, rfl, w1⟩ := op_int (hval 1 3 v1 rfl rfl) h1
  obtain ⟨a2, b2, c2, p2_, q2_, rfl, w2, u2, z2, y2, t2⟩ := op_signed (hval 2 27 v2 rfl rfl) h2 (w_each hsz 2 27 _ (by rw [Tryd.params4]; rfl) rfl)
  obtain ⟨a3, rfl, w3⟩ := op_int (hval 3 3 v3 rfl rfl) h3
  exact deviceOff_walk W a0 a1 a2 b2 c2 p2_ q2_ a3 w0 w1 w2 u2 z2 y2 t2 w3 hdoor

set_option maxRecDepth 100000 in
theorem deviceOff_lifted (os : Os) (started : os.Started) (H : Type) (enc : TypeId × Value → H) :
    ReturnsInHanded {} Tryd.checked os 4 .any (fun w args => (Rows.deviceOffSpec.pre enc Tryd.checked.prog Tryd.f4 [] false w args ∧ laidMetH Tryd.checked.prog LaidTD w) ∧ sizedMet enc Tryd.checked.prog Tryd.f4 (OpenSpec.ofChange Rows.deviceOffSpec) false w args) (Rows.deviceOffSpec.post enc Tryd.checked.prog Tryd.f4 false true false false) :=
  returns_of_walkD (C := Tryd.checked) (s := Rows.deviceOffSpec) (L := LaidTD) (D := TabTD) own started (by kernel_rfl) Tryd.func4
    (ChangeSpec.witness_at (enc := enc) (C := Tryd.checked) (os := os) (X := fun w _ => laidMetH Tryd.prog LaidTD w) false (laidWorldTD os) #[.int .i64 0, .int .i64 0, .agg #[.string ⟨#[]⟩, .int .i64 0, .string ⟨#[]⟩, .int .i64 0, .int .i64 0], .int .i64 0] 8 rfl (by kernel_rfl) (by kernel_rfl) (by kernel_rfl) (by kernel_rfl) (by kernel_rfl) (laidWorldTD_met os _))
    (fun W h => tabTD_of_laid h) laidOut (by kernel_rfl) rfl Tryd.underlying4 rfl (fun ds h => by match ds, h with | [_, _, _, _], _ => rfl) (deviceOff_walks H enc)

theorem deviceOff_bare : Rows.DeviceOffSaid :=
  OpenClaim.holds_of_wide 4 Tryd.f4 rfl rfl rfl rfl rfl rfl rfl ⟨rfl, rfl, rfl, rfl, rfl⟩ rfl rfl rfl rfl rfl (by kernel_rfl) Tryd.func4 (by kernel_rfl)
    (of_decide_eq_true (by kernel_rfl)) (by unfold Func.isWrapper; rw [if_neg (of_decide_eq_false (by kernel_rfl))]; exact ⟨rfl, rfl⟩)
    (fun os started H enc _ => deviceOff_lifted os started H enc)

theorem deviceOff_holds : Rows.DeviceOffCardSaid :=
  Claim7.holds_tied_plain_at .later [] [.data, .data, .data, .handle] true Rows.deviceOffCard.stood.harness true
    deviceOff_bare (fun _ h => by cases h) (by kernel_rfl) (fun _ h => by cases h) deviceOff_row_tie rfl ⟨rfl, rfl⟩ (by kernel_rfl) rfl
    (fun f fn hf hfn => by
      obtain rfl : f = 4 := Option.some.inj ((show Tryd.prog.funcNamed "bootstair/stairlaw4.DeviceOff" = some 4 by kernel_rfl).symm.trans hf) |>.symm
      obtain rfl : fn = Tryd.f4 := (Option.some.inj (Tryd.func4.symm.trans hfn)).symm
      exact ⟨by kernel_rfl, fun j t ht => by
        have hm : t ∈ Tryd.f4.params.toList := by simpa using Array.mem_of_getElem? ht
        have hall : (Tryd.f4.params.toList.all fun u => !Tryd.prog.wantsStandIn u) = true := by kernel_rfl
        exact (show Tryd.prog.wantsStandIn t = false by simpa using List.all_eq_true.1 hall t hm)⟩)
    (by kernel_rfl)

end Go.Proofs.YtflhbnaocognlaaDoor
