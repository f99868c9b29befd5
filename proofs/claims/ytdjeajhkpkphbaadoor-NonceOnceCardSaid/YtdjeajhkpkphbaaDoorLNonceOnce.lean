/- NonceOnce: what is issued is used as often as it was issued, and no oftener. The package variable errors.errorType holds what the program's text lays. -/
import Derived.Test.YtdjeajhkpkphbaaDoorRows
import Derived.Test.YtdjeajhkpkphbaaDoorOpen
import Derived.Test.YtdjeajhkpkphbaaDoorFoot
import Derived.Test.YtdjeajhkpkphbaaDoorNon2
import Derived.Test.YtdjeajhkpkphbaaDoorNon3
import Derived.Test.YtdjeajhkpkphbaaDoorNon4
import Derived.Test.YtdjeajhkpkphbaaDoorTold
import Derived.Test.YtdjeajhkpkphbaaDoorBds
import Derived.Test.YtdjeajhkpkphbaaDoorLiftD
import Derived.WalkKit
import Derived.Lib.Hide
import Derived.OwnWalk
import Derived.Deep.CutRange
import Derived.Deep.DeepCutAuto
namespace Go.Proofs.YtdjeajhkpkphbaaDoor
open Go.ChangeShapes Go.WideShapes Go.ChangeAt Go.RowKit
set_option linter.unusedVariables false
set_option maxRecDepth 100000

theorem once_fact : pairM 1 ((0 : Nat) : Int) = 7920 := by decide
theorem hasI_one (x : Int) : hasI [x] x = true := by simp [hasI]
theorem hasI_count (xs : List Int) (x : Int) : hasI xs x = decide (0 < xs.count x) := by
  unfold hasI
  rw [Bool.eq_iff_iff, List.any_eq_true, decide_eq_true_iff, List.count_pos_iff]
  constructor
  · rintro ⟨y, hy, h⟩
    have : x = y := by simpa using h
    subst this; exact hy
  · intro h; exact ⟨x, h, by simp⟩
theorem count_step (xs : List Int) (x : Int) (k : Nat) (h : k < xs.length) : (xs.take (k + 1)).count x = (xs.take k).count x + (if xs.getD k 0 == x then 1 else 0) := by
  rw [take_snoc xs 0 k h, List.count_append, List.count_singleton]
theorem drop_erase (xs : List Int) (k : Nat) (h : k < xs.length) : (xs.drop k).erase (xs.getD k 0) = xs.drop (k + 1) := by
  rw [drop_cons xs 0 k h]; simp
theorem drop_has (xs : List Int) (k : Nat) (h : k < xs.length) : hasI (xs.drop k) (xs.getD k 0) = true := by
  rw [drop_cons xs 0 k h]; simp [hasI]
theorem erase_len2 (xs : List Int) (x : Int) (h : hasI xs x = true) : (xs.erase x).length + 1 = xs.length := by
  have hm : x ∈ xs := by
    rw [hasI_count, decide_eq_true_iff, List.count_pos_iff] at h; exact h
  rw [List.length_erase_of_mem hm]
  have := List.length_pos_of_mem hm
  omega

/-- Two that are apart, and a list of what was issued. -/
def Duo (B : Nat) (w : World) (gn gm : Nat) (la : Int) (ma : Nat) (ys zs xs : List Int) (Al : Option Addr) (cl : Nat) : Prop :=
  ∃ An cn bn Am cm bm bl, NonceIs w 109 gn bn la ma An cn ys ∧ NonceIs w 109 gm bm la ma Am cm zs ∧ OwnI w 0 Al cl xs ∧ (∀ a, Al = some a → a.block = bl) ∧ bl < w.heap.size ∧
    gn ≠ gm ∧ bn ≠ gm ∧ gn ≠ bm ∧ bn ≠ bm ∧ bl ≠ gn ∧ bl ≠ bn ∧ bl ≠ gm ∧ bl ≠ bm ∧ B ≤ gn ∧ B ≤ gm ∧ B ≤ bn ∧ B ≤ bm ∧ B ≤ bl
theorem Duo.below {B : Nat} {w w' : World} {gn gm : Nat} {la : Int} {ma : Nat} {ys zs xs : List Int} {Al : Option Addr} {cl : Nat} (h : Duo B w gn gm la ma ys zs xs Al cl) (k : Below w.heap.size w w') : Duo B w' gn gm la ma ys zs xs Al cl := by
  obtain ⟨An, cn, bn, Am, cm, bm, bl, hN, hM, hO, hat, hbl, r⟩ := h
  exact ⟨An, cn, bn, Am, cm, bm, bl, hN.below k, hM.below k, hO.below k, hat, Nat.lt_of_lt_of_le hbl k.size, r⟩
theorem Duo.ints {B : Nat} {w : World} {gn gm : Nat} {la : Int} {ma : Nat} {ys zs xs : List Int} {Al : Option Addr} {cl : Nat} (h : Duo B w gn gm la ma ys zs xs Al cl) : IntsAt w Al xs := by
  obtain ⟨An, cn, bn, Am, cm, bm, bl, hN, hM, hO, hat, hbl, r⟩ := h
  exact hO.ints

theorem duoNonce {w8 w9 : World} {T : TypeId} {g b : Nat} {la : Int} {ma : Nat} {A Al : Option Addr} {c bl : Nat} {xs : List Int} {o : Obj} (h : NonceIs w8 T g b la ma A c xs) (hk : But (fun k => Al ≠ none ∧ k = bl) (w8.alloc o) w9) (_ : ∀ a, Al = some a → a.block = bl)
    (h1 : bl ≠ g) (h2 : bl ≠ b) : NonceIs w9 T g b la ma A c xs :=
  (h.below (grow_alloc (grow_refl _) o)).but hk (fun h => h1 h.2.symm) (fun h => h2 h.2.symm)

set_option maxHeartbeats 8000000 in
theorem nonceOnce_walk (w : World) (s m x : Int) (i0 : I64 s) (i1 : I64 m) (i2 : I64 x) (hg : Door w) :
    Calls Tryd.prog 8 #[.int .i64 s, .int .i64 m, .int .i64 x] w fun e w' => e = .returned (.bool true) ∧ Below w.heap.size w w' := by
  have en := fun k w => err_neq k w
  have ee := fun k w => err_eql k w
  have gn_ := fun o k w => err_guard_neq o k w
  have ge_ := fun o k w => err_guard_eql o k w
  have HG := Lib.hid hg
  clear hg
  have hs1 : okM 1 = true := by decide
  have HN0 := Lib.hid (NonceIs.new (Box.new w 109 #[.int .i64 1, .int .i64 0, .slice none 0 0]))
  have HS1 := Lib.hid hs1
  clear hs1
  go_enter Tryd.func8, Tryd.ntmps8
  go_wp2_with (go_at_call 31; refine (nNew_yes 1 _ HS1.out).mono ?_; rintro e w1 ⟨rfl, rfl⟩)
  refine (nIssue_more _ _ 1 0 none 0 [] _ HN0.out HS1.out (by decide) (by decide)).mono ?_
  rintro e w2 ⟨A1, c1, b1, rfl, hN1, eb1, hk1⟩
  rw [once_fact] at hN1 ⊢
  have HN1 : Hid (NonceIs w2 109 w.heap.size b1 7920 1 A1 c1 [7920]) := Lib.hid hN1
  have hbw1 : Below w.heap.size w w2 := (Below.alloc (Below.refl _ w) (Nat.le_refl _) _).trans (hk1.below (by simp) (by intro j h; rcases h with h | h <;> omega))
  have hb1 : w.heap.size ≤ b1 := by
    rcases eb1 with h | h
    · omega
    · have : (w.alloc (.cells #[.int .i64 1, .int .i64 0, .slice none 0 0] 109)).heap.size = w.heap.size + 1 := by simp
      omega
  clear hN1 hk1 eb1
  go_wp2_with fail
  refine (nUse_yes _ b1 7920 1 A1 c1 [7920] 7920 _ HN1.out (hasI_one _) (by decide)).mono ?_
  rintro e w3 ⟨rfl, hN2, hk2⟩
  have HN2 : Hid (NonceIs w3 109 w.heap.size b1 7920 1 A1 c1 []) := Lib.hid hN2
  have hbw2 : Below w.heap.size w w3 := hbw1.trans (hk2.below hbw1.size (by intro j h; rcases h with h | h <;> omega))
  clear hN2 hk2
  go_wp2_with fail
  refine (nUse_no _ b1 7920 1 A1 c1 [] 7920 _ HN2.out rfl (by decide)).mono ?_
  rintro e w4 ⟨rfl, rfl⟩
  go_wp2_with fail
  refine (error_any 5 5 _ (HG.out.below hbw2) (i64_small (by decide) (by decide))).mono ?_
  rintro e w5 ⟨rfl, hb5⟩
  have hlo : w.heap.size < w5.heap.size := Nat.lt_of_lt_of_le HN2.out.box.lt hb5.size
  have hbw5 : Below w.heap.size w w5 := grow_step hbw2 hb5
  clear hbw1 hbw2 hb5 HN0 HN1 HN2
  cases hs : okM s
  · go_wp2_with (go_at_call 31; refine (nNew_no s _ hs).mono ?_; rintro e w6 ⟨rfl, rfl⟩)
    go_ret
    exact ⟨rfl, hbw5⟩
  have HS := Lib.hid hs
  clear hs
  have B1 := NonceIs.new (Box.new w5 109 #[.int .i64 s, .int .i64 0, .slice none 0 0])
  have B2 := NonceIs.new (Box.new (w5.alloc (.cells #[.int .i64 s, .int .i64 0, .slice none 0 0] 109)) 109 #[.int .i64 s, .int .i64 0, .slice none 0 0])
  have es : (w5.alloc (.cells #[.int .i64 s, .int .i64 0, .slice none 0 0] 109)).heap.size = w5.heap.size + 1 := by simp
  rw [es] at B2
  obtain ⟨gn, hgn⟩ : ∃ gn, w5.heap.size = gn := ⟨_, rfl⟩
  have HD0 : Hid (Duo w.heap.size ((w5.alloc (.cells #[.int .i64 s, .int .i64 0, .slice none 0 0] 109)).alloc (.cells #[.int .i64 s, .int .i64 0, .slice none 0 0] 109)) w5.heap.size (w5.heap.size + 1) s 0 [] [] [] none 0) :=
    Lib.hid ⟨none, 0, w5.heap.size, none, 0, w5.heap.size + 1, w.heap.size, B1.below (grow_alloc (grow_refl _) _), B2, OwnI.start _ _, (fun a ha => by cases ha), by simp; omega, by omega, by omega, by omega, by omega, by omega, by omega, by omega, by omega, by omega, by omega, by omega, by omega, by omega⟩
  have HBW : Hid (Below w.heap.size w ((w5.alloc (.cells #[.int .i64 s, .int .i64 0, .slice none 0 0] 109)).alloc (.cells #[.int .i64 s, .int .i64 0, .slice none 0 0] 109))) := Lib.hid (grow_alloc (grow_alloc hbw5 _) _)
  rw [hgn] at HD0
  clear B1 B2 es hlo
  go_upto_region 11 with (go_at_call 31; refine (nNew_yes s _ HS.out).mono ?_; rintro e w6 ⟨rfl, rfl⟩)
  go_cut [81] (fun t wx => t = .bool (decide (m < 0 ∨ 8 < m)) ∧ Hid (Duo w.heap.size wx gn (gn + 1) s 0 [] [] [] none 0) ∧ Below w.heap.size w wx)
  case first =>
    by_cases h1 : m < 0
    · have h3 : decide (m < 0 ∨ 8 < m) = true := decide_eq_true (by omega)
      have H3 := Lib.hid h3
      clear h3
      go_wp2_with fail
      go_meet
      exact ⟨congrArg Value.bool H3.out.symm, HD0, HBW.out⟩
    · by_cases h2 : 8 < m
      · have h3 : decide (m < 0 ∨ 8 < m) = true := decide_eq_true (by omega)
        have H3 := Lib.hid h3
        clear h3
        go_wp2_with fail
        go_meet
        exact ⟨congrArg Value.bool H3.out.symm, HD0, HBW.out⟩
      · have h3 : decide (m < 0 ∨ 8 < m) = false := decide_eq_false (by omega)
        have H3 := Lib.hid h3
        clear h3
        go_wp2_with fail
        go_meet
        exact ⟨congrArg Value.bool H3.out.symm, HD0, HBW.out⟩
  case rest =>
  obtain ⟨rfl, HD2, hbw7⟩ := hcut
  clear HD0 HBW
  obtain ⟨T, hT⟩ : ∃ T, decide (m < 0 ∨ 8 < m) = T := ⟨_, rfl⟩
  rw [hT]
  have HT := Lib.hid hT
  clear hT
  go_upto_if 81 with fail
  go_cut [1] (fun v wx => ∃ M : Nat, M ≤ 8 ∧ v = .int .i64 M ∧ Hid (Duo w.heap.size wx gn (gn + 1) s 0 [] [] [] none 0) ∧ Below w.heap.size w wx)
  case first =>
    cases T
    · have h := of_decide_eq_false HT.out
      obtain ⟨M, rfl⟩ := Int.eq_ofNat_of_zero_le (show 0 ≤ m by omega)
      go_wp2_with fail
      go_meet
      exact ⟨M, by omega, rfl, HD2, hbw7⟩
    · go_wp2_with fail
      go_meet
      exact ⟨8, by omega, rfl, HD2, hbw7⟩
  case rest =>
  obtain ⟨M, hM8, rfl, HD1, hbw6⟩ := hcut
  clear HD2 hbw7 HT hbw5 hgn
  go_wp2_with fail
  go_loopw [14, 15, 16, 17, 18, 19] (fun l i _ _ _ _ wr => ∃ (k : Nat) (la : Int) (xs : List Int) (Al : Option Addr) (cl : Nat), k ≤ M ∧ l = .slice Al k cl ∧ i = .int .i64 k ∧ Hid (xs.length = k) ∧ Hid (okM la = true) ∧ Hid (Duo w.heap.size wr gn (gn + 1) la k xs xs xs Al cl) ∧ Below w.heap.size w wr) (fun _ i _ _ _ _ _ => M - (intOf i).toNat)
  case atStart => exact ⟨0, s, [], none, 0, by omega, rfl, rfl, Lib.hid rfl, HS, HD1, hbw6⟩
  case round =>
    obtain ⟨k, la, xs, Al, cl, hk, rfl, rfl, HXL, HLA, HD, hbr⟩ := hrel
    by_cases hlt : k < M
    · obtain ⟨An, cn, bn, Am, cm, bm, bl, hN, hM, hO, hat, hbl, d1, d2, d3, d4, d5, d6, d7, d8, p1, p2, p3, p4, p5⟩ := HD.out
      have HAT := Lib.hid hat
      have q1 := hN.box.lt
      have q2 := hN.lt
      have q3 := hM.box.lt
      have q4 := hM.lt
      have HN := Lib.hid hN
      have HM := Lib.hid hM
      have HO := Lib.hid hO
      clear hN hM hO hat
      go_wp2_with fail
      refine (nIssue_more gn bn la k An cn xs _ HN.out HLA.out (by omega) (by have := HXL.out; omega)).mono ?_
      rintro e w7 ⟨An', cn', bn', rfl, hN7, ebn, hk7⟩
      have hM7 := HM.out.but hk7 (by intro h; rcases h with h | h <;> omega) (by intro h; rcases h with h | h <;> omega)
      have hO7 := HO.out.but hk7 (fun a ha h => by have := HAT.out a ha; rcases h with h | h <;> omega)
      have HN7 := Lib.hid hN7
      have HM7 := Lib.hid hM7
      have HO7 := Lib.hid hO7
      have hs7 := hk7.size
      have t1 := hN7.lt
      have hbw7 : Below w.heap.size w w7 := hbr.trans (hk7.below (by omega) (by intro j h; rcases h with h | h <;> omega))
      clear hN7 hM7 hO7 hk7
      go_wp2_with fail
      refine (nIssue_more (gn + 1) bm la k Am cm xs _ HM7.out HLA.out (by omega) (by have := HXL.out; omega)).mono ?_
      rintro e w8 ⟨Am', cm', bm', rfl, hM8', ebm, hk8⟩
      have hN8 := HN7.out.but hk8 (by intro h; rcases h with h | h <;> omega) (by intro h; rcases h with h | h <;> omega)
      have hO8 := HO7.out.but hk8 (fun a ha h => by have := HAT.out a ha; rcases h with h | h <;> omega)
      have HN8 := Lib.hid hN8
      have HM8 := Lib.hid hM8'
      have HO8 := Lib.hid hO8
      have hs8 := hk8.size
      have t2 := hM8'.lt
      have hbw8 : Below w.heap.size w w8 := hbw7.trans (hk8.below (by omega) (by intro j h; rcases h with h | h <;> omega))
      clear hN8 hM8' hO8 hk8
      obtain ⟨V, hV⟩ : ∃ V, pairM la (k : Int) = V := ⟨_, rfl⟩
      have hpm : okM (pairM la k) = true := pairM_ok _ _
      rw [hV] at HN8 HM8 hpm ⊢
      have HPM := Lib.hid hpm
      clear hV hpm
      go_wp2_with (at_builtin; refine app_but2 rfl (.tmp 108) (.tmp 110) rfl Al cl k xs rfl HXL.out (HO8.out.below (by exact grow_alloc (grow_refl _) _)) bl HAT.out (some ⟨w8.heap.size, 0, none⟩) 1 1 [V] rfl rfl (IntsAt.new_ _ _ [V] (0, 0)) (by have := HXL.out; simp; omega) ?_; intro Al' cl' bl' k' w9 hz hO9 ebl hat' hk9)
      have hN9 := duoNonce HN8.out hk9 HAT.out d5 (by omega)
      have hM9 := duoNonce HM8.out hk9 HAT.out d7 (by omega)
      have hbw9 : Below w.heap.size w w9 := (grow_alloc hbw8 _).trans (hk9.below (Nat.le_trans hbw8.size (by simp)) (by rintro j ⟨_, h⟩; omega))
      have HD9 : Hid (Duo w.heap.size w9 gn (gn + 1) V (k + 1) (xs ++ [V]) (xs ++ [V]) (xs ++ [V]) Al' cl') := Lib.hid (by
        obtain ⟨g9, _, rfl, _⟩ := own_form hO9 (by simp)
        have hl9 := own_lt hO9 _ rfl
        have h9 := (hat' _ rfl).1
        have e8 : (w8.alloc (.cells #[.int .i64 V] 3)).heap.size = w8.heap.size + 1 := by simp
        rw [e8] at ebl
        rw [h9] at hl9
        exact ⟨An', cn', bn', Am', cm', bm', bl', hN9, hM9, hO9, fun a ha => (hat' a ha).1, hl9, d1, by omega, by omega, by omega, by omega, by omega, by omega, by omega, p1, p2, by omega, by omega, by omega⟩)
      have hk' : k' = k + 1 := hz
      have HXL9 : Hid ((xs ++ [V]).length = k + 1) := Lib.hid (by rw [List.length_append, HXL.out]; rfl)
      clear hN9 hM9 hO9 hk9 hat' ebl hz
      subst hk'
      go_roundw
      case rel => exact ⟨k + 1, V, xs ++ [V], Al', cl', by omega, rfl, by go_num, HXL9, HPM, HD9, hbw9⟩
      case measure => simp [intOf]; omega
    · obtain rfl : k = M := by omega
      have HI := Lib.hid HD.out.ints
      obtain ⟨C, hC⟩ : ∃ C, xs.count x = C := ⟨_, rfl⟩
      have HC := Lib.hid hC
      clear hC
      go_wp2_with fail
      go_loop [20, 21] (fun t i => ∃ j : Nat, j ≤ xs.length ∧ i = .int .i64 j ∧ t = .int .i64 ((xs.take j).count x)) (fun _ i => xs.length - (intOf i).toNat)
      case atStart => exact ⟨0, by omega, rfl, by simp⟩
      case round =>
        obtain ⟨j, hj, rfl, rfl⟩ := hrel
        have hxk := HXL.out
        by_cases hjl : j < xs.length
        · have gj : j < k := by omega
          obtain ⟨b0, off, rfl, _, hc⟩ := HI.out j hjl
          have HS := Lib.hid (count_step xs x j hjl)
          obtain ⟨y, hy⟩ : ∃ y, xs.getD j 0 = y := ⟨_, rfl⟩
          rw [hy] at hc HS
          clear hy
          obtain ⟨T, hT⟩ : ∃ T, (xs.take j).count x = T := ⟨_, rfl⟩
          have hTb : T ≤ 8 := by have := List.count_le_length (a := x) (l := xs.take j); rw [List.length_take] at this; omega
          rw [hT] at HS ⊢
          clear hT hxk
          cases hp : y == x
          · rw [hp] at HS
            go_wp2
            go_round
            case rel => exact ⟨j + 1, by omega, by go_num, by rw [HS.out]; rfl⟩
            case measure => simp [intOf]; omega
          · rw [hp] at HS
            go_wp2
            go_round
            case rel => exact ⟨j + 1, by omega, by go_num, by rw [HS.out]; go_num⟩
            case measure => simp [intOf]; omega
        · obtain rfl : j = xs.length := by omega
          rw [List.take_length, HC.out]
          have hCb : C ≤ 8 := by have := List.count_le_length (a := x) (l := xs); rw [HC.out] at this; omega
          clear hjl hj
          have hge : ¬ (xs.length < k) := by omega
          clear hxk
          go_wp2_with fail
          go_loopw [22] (fun i w3 => ∃ (j : Nat) (ys : List Int), j ≤ C ∧ i = .int .i64 j ∧ Hid (ys.count x + j = C) ∧ Hid (ys.length + j = k) ∧ Hid (Duo w.heap.size w3 gn (gn + 1) la k ys xs xs Al cl) ∧ Below w.heap.size w w3) (fun i _ => C - (intOf i).toNat)
          case atStart => exact ⟨0, xs, by omega, rfl, HC, HXL, HD, hbr⟩
          case round =>
            obtain ⟨j, ys, hj, rfl, HYC, HYL, HD3, hb3⟩ := hrel
            obtain ⟨An, cn, bn, Am, cm, bm, bl, hN, hM, hO, hat, hbl, d1, d2, d3, d4, d5, d6, d7, d8, p1, p2, p3, p4, p5⟩ := HD3.out
            have HAT := Lib.hid hat
            have q2 := hN.lt
            have HN := Lib.hid hN
            have HM := Lib.hid hM
            have HO := Lib.hid hO
            clear hN hM hO hat
            by_cases hjl : j < C
            · have HH : Hid (hasI ys x = true) := Lib.hid (by rw [hasI_count, decide_eq_true_iff]; have := HYC.out; omega)
              go_wp2_with fail
              refine (nUse_yes gn bn la k An cn ys x _ HN.out HH.out (by have := HYL.out; omega)).mono ?_
              rintro e w11 ⟨rfl, hN1, hk1⟩
              have hM1 := HM.out.but hk1 (by intro h; rcases h with h | h <;> omega) (by intro h; rcases h with h | h <;> omega)
              have hO1 := HO.out.but hk1 (fun a ha h => by have := HAT.out a ha; rcases h with h | h <;> omega)
              have hb11 : Below w.heap.size w w11 := hb3.trans (hk1.below hb3.size (by intro j h; rcases h with h | h <;> omega))
              have HD11 : Hid (Duo w.heap.size w11 gn (gn + 1) la k (ys.erase x) xs xs Al cl) := Lib.hid ⟨An, cn, bn, Am, cm, bm, bl, hN1, hM1, hO1, HAT.out, Nat.lt_of_lt_of_le hbl hk1.size, d1, d2, d3, d4, d5, d6, d7, d8, p1, p2, p3, p4, p5⟩
              have HYC1 : Hid ((ys.erase x).count x + (j + 1) = C) := Lib.hid (by rw [List.count_erase_self]; have := HYC.out; omega)
              have HYL1 : Hid ((ys.erase x).length + (j + 1) = k) := Lib.hid (by have := erase_len2 ys x HH.out; have := HYL.out; omega)
              clear hN1 hM1 hO1 hk1
              go_wp2_with fail
              go_roundw
              case rel => exact ⟨j + 1, ys.erase x, by omega, by go_num, HYC1, HYL1, HD11, hb11⟩
              case measure => simp [intOf]; omega
            · obtain rfl : j = C := by omega
              have HH : Hid (hasI ys x = false) := Lib.hid (by rw [hasI_count, decide_eq_false_iff_not]; have := HYC.out; omega)
              have HQ : Hid ((ys.length : Int) = (k : Int) - (j : Int)) := Lib.hid (by have := HYL.out; omega)
              go_wp2_with fail
              refine (nUse_no gn bn la k An cn ys x _ HN.out HH.out (by have := HYL.out; omega)).mono ?_
              rintro e w12 ⟨rfl, rfl⟩
              go_wp2_with fail
              refine (error_any 5 5 _ (HG.out.below hb3) (i64_small (by decide) (by decide))).mono ?_
              rintro e w12 ⟨rfl, hb12⟩
              have HN12 := Lib.hid (HN.out.below hb12)
              have HD12 := Lib.hid (HD3.out.below hb12)
              have hbw12 : Below w.heap.size w w12 := grow_step hb3 hb12
              have hq := HQ.out
              go_wp2_with (go_at_call 33; refine (nOpen_any _ _ _ _ _ _ _ _ HN12.out).mono ?_; rintro e w13 ⟨rfl, rfl⟩; rw [hq])
              clear hq
              have hxk := HXL.out
              go_loopw [23] (fun i w4 => ∃ (i4 : Nat), i4 ≤ k ∧ i = .int .i64 i4 ∧ Hid (Duo w.heap.size w4 gn (gn + 1) la k ys (xs.drop i4) xs Al cl) ∧ Below w.heap.size w w4) (fun i _ => k - (intOf i).toNat)
              case atStart => exact ⟨0, by omega, rfl, HD12, hbw12⟩
              case round =>
                obtain ⟨i4, hi4, rfl, HD4, hb4⟩ := hrel
                obtain ⟨An, cn, bn, Am, cm, bm, bl, hN, hM, hO, hat, hbl, d1, d2, d3, d4, d5, d6, d7, d8, p1, p2, p3, p4, p5⟩ := HD4.out
                have HAT := Lib.hid hat
                have q2 := hM.lt
                have HN := Lib.hid hN
                have HM := Lib.hid hM
                have HO := Lib.hid hO
                clear hN hM hO hat
                by_cases hjl : i4 < k
                · obtain ⟨b0, off, rfl, _, hc⟩ := HO.out.ints i4 (by omega)
                  have HDE := Lib.hid (drop_erase xs i4 (by omega))
                  have HDH := Lib.hid (drop_has xs i4 (by omega))
                  have HDL : Hid ((xs.drop i4).length ≤ 1000) := Lib.hid (by rw [List.length_drop]; omega)
                  obtain ⟨y, hy⟩ : ∃ y, xs.getD i4 0 = y := ⟨_, rfl⟩
                  rw [hy] at hc HDE HDH
                  clear hy hxk
                  go_wp2_with fail
                  refine (nUse_yes (gn + 1) bm la k Am cm (xs.drop i4) y _ HM.out HDH.out HDL.out).mono ?_
                  rintro e w14 ⟨rfl, hM1, hk1⟩
                  rw [HDE.out] at hM1
                  have hN1 := HN.out.but hk1 (by intro h; rcases h with h | h <;> omega) (by intro h; rcases h with h | h <;> omega)
                  have hO1 := HO.out.but hk1 (fun a ha h => by have := HAT.out a ha; rcases h with h | h <;> omega)
                  have hb14 : Below w.heap.size w w14 := hb4.trans (hk1.below hb4.size (by intro j h; rcases h with h | h <;> omega))
                  have HD14 : Hid (Duo w.heap.size w14 gn (gn + 1) la k ys (xs.drop (i4 + 1)) xs _ cl) := Lib.hid ⟨An, cn, bn, Am, cm, bm, bl, hN1, hM1, hO1, HAT.out, Nat.lt_of_lt_of_le hbl hk1.size, d1, d2, d3, d4, d5, d6, d7, d8, p1, p2, p3, p4, p5⟩
                  clear hN1 hM1 hO1 hk1
                  go_wp2_with fail
                  go_roundw
                  case rel => exact ⟨i4 + 1, by omega, by go_num, HD14, hb14⟩
                  case measure => simp [intOf]; omega
                · obtain rfl : i4 = k := by omega
                  have hM' := HM.out
                  rw [List.drop_of_length_le (by omega)] at hM'
                  have HM' := Lib.hid hM'
                  clear hM'
                  go_wp2_with (go_at_call 33; refine (nOpen_any _ _ _ _ _ _ _ _ HM'.out).mono ?_; rintro e w15 ⟨rfl, rfl⟩)
                  go_ret
                  exact ⟨rfl, hb4⟩

set_option maxRecDepth 100000 in
theorem nonceOnce_walks (H : Type) (enc : TypeId × Value → H) : WalksD enc Tryd.prog Door 8 Tryd.f8 := by
  intro W base args ds p hval hA hlt hsz hsh hdoor
  have hsz0 := hsz
  rw [Tryd.params8] at hA hval
  obtain ⟨v0, vs0, d0, ds0, p0, q0, hargs, rfl, rfl, h0, r0⟩ := trodAll_cons hA
  obtain ⟨v1, vs1, d1, ds1, p1, q1, rfl, rfl, rfl, h1, r1⟩ := trodAll_cons r0
  obtain ⟨v2, vs2, d2, ds2, p2, q2, rfl, rfl, rfl, h2, r2⟩ := trodAll_cons r1
  obtain ⟨rfl, rfl, rfl⟩ := trodAll_nil r2
  obtain rfl : args = #[v0, v1, v2] := by cases args; simp_all
  obtain ⟨a0, rfl, w0⟩ := op_int (hval 0 3 v0 rfl rfl) h0
  obtain ⟨a1, rfl, w1⟩ := op_int (hval 1 3 v1 rfl rfl) h1
  obtain ⟨a2, rfl, w2⟩ := op_int (hval 2 3 v2 rfl rfl) h2
  exact nonceOnce_walk W a0 a1 a2 w0 w1 w2 hdoor

set_option maxRecDepth 100000 in
theorem nonceOnce_lifted (os : Os) (started : os.Started) (H : Type) (enc : TypeId × Value → H) :
    ReturnsInHanded {} Tryd.checked os 8 .any (fun w args => (Rows.nonceOnceSpec.pre enc Tryd.checked.prog Tryd.f8 [] false w args ∧ laidMetH Tryd.checked.prog LaidD w) ∧ sizedMet enc Tryd.checked.prog Tryd.f8 (OpenSpec.ofChange Rows.nonceOnceSpec) false w args) (Rows.nonceOnceSpec.post enc Tryd.checked.prog Tryd.f8 false true false false) :=
  returns_of_walkD (C := Tryd.checked) (s := Rows.nonceOnceSpec) (L := LaidD) (D := Door) own started (by kernel_rfl) Tryd.func8
    (ChangeSpec.witness_at (enc := enc) (C := Tryd.checked) (os := os) (X := fun w _ => laidMetH Tryd.prog LaidD w) false (laidWorld os) #[.int .i64 0, .int .i64 0, .int .i64 0] 8 rfl (by kernel_rfl) (by kernel_rfl) (by kernel_rfl) (by kernel_rfl) (by kernel_rfl) (laidWorld_met os _))
    (fun W h => door_of_laid h) laidOut (by kernel_rfl) rfl Tryd.underlying4 rfl (fun ds h => by match ds, h with | [_, _, _], _ => rfl) (nonceOnce_walks H enc)

theorem nonceOnce_bare : Rows.NonceOnceSaid :=
  OpenClaim.holds_of_wide 8 Tryd.f8 rfl rfl rfl rfl rfl rfl rfl ⟨rfl, rfl, rfl, rfl, rfl⟩ rfl rfl rfl rfl rfl (by kernel_rfl) Tryd.func8 (by kernel_rfl)
    (of_decide_eq_true (by kernel_rfl)) (by unfold Func.isWrapper; rw [if_neg (of_decide_eq_false (by kernel_rfl))]; exact ⟨rfl, rfl⟩)
    (fun os started H enc _ => nonceOnce_lifted os started H enc)

theorem nonceOnce_holds : Rows.NonceOnceCardSaid :=
  Claim7.holds_tied_plain_at .later [] [.handle] true Rows.nonceOnceCard.stood.harness true
    nonceOnce_bare (fun _ h => by cases h) (by kernel_rfl) (fun _ h => by cases h) nonceOnce_row_tie rfl ⟨rfl, rfl⟩ (by kernel_rfl) rfl
    (fun f fn hf hfn => by
      obtain rfl : f = 8 := Option.some.inj ((show Tryd.prog.funcNamed "bootstair/stairlaw1.NonceOnce" = some 8 by kernel_rfl).symm.trans hf) |>.symm
      obtain rfl : fn = Tryd.f8 := (Option.some.inj (Tryd.func8.symm.trans hfn)).symm
      exact ⟨by kernel_rfl, fun j t ht => by
        have hm : t ∈ Tryd.f8.params.toList := by simpa using Array.mem_of_getElem? ht
        have hall : (Tryd.f8.params.toList.all fun u => !Tryd.prog.wantsStandIn u) = true := by kernel_rfl
        exact (show Tryd.prog.wantsStandIn t = false by simpa using List.all_eq_true.1 hall t hm)⟩)
    (by kernel_rfl)

end Go.Proofs.YtdjeajhkpkphbaaDoor
