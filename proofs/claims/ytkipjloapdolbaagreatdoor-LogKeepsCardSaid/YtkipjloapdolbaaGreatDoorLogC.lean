/- log's Sync, Fail, Crash, Least, Bytes, Safe over a plain record of a log. -/
import Derived.Test.YtkipjloapdolbaaGreatDoorRows
import Derived.Test.YtkipjloapdolbaaGreatDoorNum
import Derived.Test.YtkipjloapdolbaaGreatDoorBase
import Derived.Test.YtkipjloapdolbaaGreatDoorFoot
import Derived.Test.YtkipjloapdolbaaGreatDoorImg
import Derived.Test.YtkipjloapdolbaaGreatDoorCount
import Derived.Test.YtkipjloapdolbaaGreatDoorCntP
import Derived.Test.YtkipjloapdolbaaGreatDoorCntC
import Derived.Test.YtkipjloapdolbaaGreatDoorLines
import Derived.Test.YtkipjloapdolbaaGreatDoorLogP
import Derived.Test.YtkipjloapdolbaaGreatDoorLogA
import Derived.Test.YtkipjloapdolbaaGreatDoorRedo
import Derived.Test.YtkipjloapdolbaaGreatDoorLogM
import Derived.Test.YtkipjloapdolbaaGreatDoorLogR
import Derived.Test.YtkipjloapdolbaaGreatDoorLogW
import Derived.Test.YtkipjloapdolbaaGreatDoorShelf
import Derived.WalkKit
import Derived.WalkSpells
import Derived.WalkLawsBesides
import Derived.BigRegion
import Derived.Lib.Hide
import Derived.Lib.LastIndexLaws
import Derived.Deep.RegionHeld3
namespace Go.Proofs.YtkipjloapdolbaaGreatDoor
open Go.RowKit
set_option maxRecDepth 100000
set_option linter.unusedVariables false
set_option linter.unusedSimpArgs false

theorem bytesB_len (rs : List Rec) : ((bytesB rs []).size : Int) = (flatN rs : Int) := by
  rw [← size_list, bytesB_data, List.append_nil]; rfl
/-- What Sync answers, and leaves. -/
def syncOut (L : Lg) : Int × Lg :=
  if L.st then (6, L)
  else if L.left = 0 then (6, { recs := L.recs, half := L.half, safe := L.safe, left := -1, st := true })
  else (0, { recs := L.recs, half := L.half, safe := flatN L.recs, left := max (-1) (L.left - 1), st := false })
theorem LgOK.set_ {L : Lg} (h : LgOK L) {safe left : Int} {st : Bool} (h0 : 0 ≤ safe) (h1 : safe ≤ (flatN L.recs : Int)) (h2 : -1 ≤ left) (h3 : left ≤ 9223372036854775807) (h4 : st = false → L.half = []) : LgOK { recs := L.recs, half := L.half, safe := safe, left := left, st := st } :=
  ⟨h.recs, h.many, h.half, h.noNl, h4, h0, h1, h2, h3⟩

set_option maxHeartbeats 1000000 in
theorem lgSync_any (w : World) (g b N : Nat) (L : Lg) (h : LogIs w g b N L) :
    Calls Tryz.prog 7 #[.pointer (some ⟨g, 0, none⟩)] w fun e w' => e = .returned (errV (syncOut L).1) ∧ LogIs w' g b N (syncOut L).2 ∧ But (fun k => k = g) w w' := by
  obtain ⟨hB, hC, hO, hg1, hg2⟩ := h
  have cB := hB.cell
  have lB := hB.lt
  have HB := Lib.hid hB
  have HO := Lib.hid hO
  have HC := Lib.hid hC
  unfold syncOut
  cases hst : L.st
  · rw [if_neg (by decide)]
    rw [hst] at cB
    have hS := Lib.hid (logStep_any w g (b + 1) _ _ _ L.left L.st hO.left0 hO.left1 hB)
    have hwh := hO.whole hst
    by_cases hl : L.left = 0
    · rw [if_pos hl]
      rw [hl] at hS
      have m1 : max (-1 : Int) (0 - 1) = -1 := by omega
      have m2 : ((0 : Int) == 0) = true := rfl
      try rw [m1] at hS
      try rw [m2] at hS
      have hO2 := Lib.hid (hO.set_ (safe := L.safe) (left := -1) (st := true) hO.safe0 hO.safe1 (by omega) (by omega) (fun h => by cases h))
      clear hB hO hC hl hst m1 m2
      go_enter Tryz.func7, Tryz.ntmps7
      go_wp2_with fail
      refine hS.out.mono ?_
      rintro e w1 ⟨rfl, hB1, hk⟩
      have HB1 := Lib.hid hB1
      have HK := Lib.hid hk
      have HC1 : Hid (∃ n, n ≤ N ∧ CE w1 b n (raisedL L.recs)) := Lib.hid (by obtain ⟨n, hn, hc⟩ := HC.out; exact ⟨n, hn, hc.but hk (fun e => hg1 e.symm) (fun e => hg2 e.symm)⟩)
      clear hB1 hk
      go_wp2_with fail
      go_ret
      exact ⟨rfl, ⟨HB1.out, HC1.out, hO2.out, hg1, hg2⟩, HK.out⟩
    · rw [if_neg hl]
      have tl : (L.left == 0) = false := by simp [hl]
      rw [tl] at hS
      have o0 := hO.left0
      have o1 := hO.left1
      have hO2 := Lib.hid (hO.set_ (safe := flatN L.recs) (left := max (-1) (L.left - 1)) (st := false) (by omega) (by omega) (by omega) (by omega) (fun _ => hwh))
      have hz : ((bytesB L.recs L.half).size : Int) = (flatN L.recs : Int) := by rw [hwh]; exact bytesB_len _
      obtain ⟨M, hM⟩ : ∃ M : Int, max (-1) (L.left - 1) = M := ⟨_, rfl⟩
      rw [hM] at hS hO2 ⊢
      obtain ⟨BS, hBS⟩ : ∃ BS, bytesB L.recs L.half = BS := ⟨_, rfl⟩
      rw [hBS] at hS HB cB hz
      have HZ := Lib.hid hz
      have HBS := Lib.hid hBS
      clear hB hO hC hl hst tl o0 o1 hM hz hBS
      go_enter Tryz.func7, Tryz.ntmps7
      go_wp2_with fail
      refine hS.out.mono ?_
      rintro e w1 ⟨rfl, hB1, hk⟩
      have HB1 := Lib.hid hB1
      have cB := hB1.cell
      have lB := hB1.lt
      have fB := hB1.frozen
      have HK := Lib.hid hk
      have HC1 : Hid (∃ n, n ≤ N ∧ CE w1 b n (raisedL L.recs)) := Lib.hid (by obtain ⟨n, hn, hc⟩ := HC.out; exact ⟨n, hn, hc.but hk (fun e => hg1 e.symm) (fun e => hg2 e.symm)⟩)
      clear hB1 hk
      go_wp2_with fail
      have hs5 : But (fun k => k = g) w1 (w1.setCell ⟨g, 3, none⟩ (.int .i64 (BS.size : Int))) := (But.refl (fun k => k = g) w1).setCell (p := ⟨g, 3, none⟩) (Or.inl rfl) _
      have hx5 := Lib.hid (show LogBox (w1.setCell ⟨g, 3, none⟩ (.int .i64 (BS.size : Int))) g (b + 1) BS L.recs.length (BS.size : Int) M false from HB1.out.set_ 3 (.int .i64 (BS.size : Int)))
      have HC2 : Hid (∃ n, n ≤ N ∧ CE (w1.setCell ⟨g, 3, none⟩ (.int .i64 (BS.size : Int))) b n (raisedL L.recs)) := Lib.hid (by obtain ⟨n, hn, hc⟩ := HC1.out; exact ⟨n, hn, hc.but hs5 (fun e => hg1 e.symm) (fun e => hg2 e.symm)⟩)
      have HK2 := Lib.hid (HK.out.trans hs5 (fun _ _ h => h))
      clear hs5
      go_ret
      refine ⟨rfl, ⟨?_, HC2.out, hO2.out, hg1, hg2⟩, HK2.out⟩
      show LogBox _ g (b + 1) (bytesB L.recs L.half) L.recs.length (flatN L.recs : Int) M false
      rw [HBS.out, ← HZ.out]
      exact hx5.out
  · rw [if_pos rfl]
    rw [hst] at cB
    clear hB hO hC hst
    go_enter Tryz.func7, Tryz.ntmps7
    go_wp2_with fail
    go_ret
    exact ⟨rfl, ⟨HB.out, HC.out, HO.out, hg1, hg2⟩, But.refl _ _⟩

def failOut (L : Lg) (n : Int) : Lg := { recs := L.recs, half := L.half, safe := L.safe, left := max (-1) n, st := L.st }
set_option maxHeartbeats 1000000 in
theorem lgFail_any (w : World) (g b N : Nat) (L : Lg) (n : Int) (i : I64 n) (h : LogIs w g b N L) :
    Calls Tryz.prog 12 #[.pointer (some ⟨g, 0, none⟩), .int .i64 n] w fun e w' => e = .returned (.tuple #[]) ∧ LogIs w' g b N (failOut L n) ∧ But (fun k => k = g) w w' := by
  obtain ⟨hB, hC, hO, hg1, hg2⟩ := h
  have cB := hB.cell
  have lB := hB.lt
  have fB := hB.frozen
  have HB := Lib.hid hB
  have hO2 : Hid (LgOK (failOut L n)) := Lib.hid (hO.set_ (safe := L.safe) (left := max (-1) n) (st := L.st) hO.safe0 hO.safe1 (by omega) (by have := i.2; omega) hO.whole)
  have HC := Lib.hid hC
  clear hB hO hC i
  go_enter Tryz.func12, Tryz.ntmps12
  go_wp2_with fail
  have hs5 : But (fun k => k = g) w (w.setCell ⟨g, 4, none⟩ (.int .i64 (max (-1) n))) := (But.refl (fun k => k = g) w).setCell (p := ⟨g, 4, none⟩) (Or.inl rfl) _
  have hx5 := Lib.hid (show LogBox (w.setCell ⟨g, 4, none⟩ (.int .i64 (max (-1) n))) g (b + 1) (bytesB L.recs L.half) L.recs.length L.safe (max (-1) n) L.st from HB.out.set_ 4 (.int .i64 (max (-1) n)))
  have HC2 : Hid (∃ m, m ≤ N ∧ CE (w.setCell ⟨g, 4, none⟩ (.int .i64 (max (-1) n))) b m (raisedL L.recs)) := Lib.hid (by obtain ⟨n, hn, hc⟩ := HC.out; exact ⟨n, hn, hc.but hs5 (fun e => hg1 e.symm) (fun e => hg2 e.symm)⟩)
  have HK := Lib.hid hs5
  clear hs5
  refine bodyPost_end (results_none rfl _ _ _) rfl ?_
  exact ⟨rfl, ⟨hx5.out, HC2.out, hO2.out, hg1, hg2⟩, HK.out⟩

set_option maxHeartbeats 1000000 in
theorem lgCrash_any (w : World) (g b N : Nat) (L : Lg) (keep : Int) (i : I64 keep) (h : LogIs w g b N L) (hM : MaxT w) :
    Calls Tryz.prog 8 #[.pointer (some ⟨g, 0, none⟩), .int .i64 keep] w fun e w' => e = .returned (.tuple #[]) ∧ ∃ b', LogIs w' g b' 31 (crashOut L keep) ∧ w.heap.size ≤ b' ∧ But (fun k => k = g) w w' := by
  have en := fun k w => err_neq k w
  have gn := fun o k w => err_guard_neq o k w
  obtain ⟨m, hm⟩ := hM
  obtain ⟨hB, hC, hO, hg1, hg2⟩ := h
  obtain ⟨hb0, hb1, hb2⟩ := high_bd hO keep
  have hsz := bytesB_size hO
  have HO2 := Lib.hid (hO.crash keep)
  have s0 := hO.safe0
  obtain ⟨hh, hhe⟩ : ∃ hh : Nat, (hh : Int) = highOf L keep := ⟨(highOf L keep).toNat, by omega⟩
  have htn : (highOf L keep).toNat = hh := by omega
  obtain ⟨c1, c2, c3⟩ := crash_cut hO hh
  have hrs : RecsOK (L.recs.take (wholeN L.recs hh)) := hO.recs.take _
  have hrl : (L.recs.take (wholeN L.recs hh)).length ≤ 30 := by have := hO.many; rw [List.length_take]; omega
  unfold crashOut at HO2 ⊢
  rw [htn] at HO2 ⊢
  unfold highOf at hhe
  obtain ⟨BS, hBS⟩ : ∃ BS, bytesB L.recs L.half = BS := ⟨_, rfl⟩
  rw [hBS] at hB hhe c1 c2 c3 hsz hb2
  have hfl : flatN (L.recs.take (wholeN L.recs hh)) ≤ 500 := by rw [ByteArray.size_extract] at c2; omega
  obtain ⟨rs, hrs2⟩ : ∃ rs, L.recs.take (wholeN L.recs hh) = rs := ⟨_, rfl⟩
  rw [hrs2] at c1 c2 c3 hrs hrl HO2 hfl ⊢
  obtain ⟨q, hq⟩ : ∃ q, flatN rs = q := ⟨_, rfl⟩
  rw [hq] at c1 c2 c3 hfl HO2 ⊢
  have HR := Lib.hid (fun w hm => redo_any rs (bytesB rs []) (by rw [bytesB_data, List.append_nil]) hrs (by omega) (by rw [← size_list, bytesB_data, List.append_nil]; show flatN rs ≤ _; omega) w m hm)
  obtain ⟨Y, hY⟩ : ∃ Y, bytesB rs [] = Y := ⟨_, rfl⟩
  have hYs : (Y.size : Int) = q := by rw [← hY, bytesB_len, hq]
  rw [hY] at HR c3
  have HL := Lib.hid (fun w => Tryz.strings_LastIndex_one (BS.extract 0 hh) { data := #[10] } rfl (by rw [ByteArray.size_extract]; omega) w)
  obtain ⟨LI, hLI⟩ : ∃ LI, Lib.lastIndexByte (BS.extract 0 hh) 10 = LI := ⟨_, rfl⟩
  have hLI2 : Lib.lastIndexByte (BS.extract 0 hh) ((({ data := #[10] } : ByteArray)[0]'(by decide)).toNat : Int) = LI := hLI
  rw [hLI] at c1
  have cB := hB.cell
  have lB := hB.lt
  have fB := hB.frozen
  have HB := Lib.hid hB
  have hM0 := Lib.hid hm
  have hh2 : hh ≤ BS.size := by omega
  have k1 : wrap64 ((BS.size : Int) - L.safe) = (BS.size : Int) - L.safe := IntWalk.wrap64_in _ (by omega)
  have k2 : wrap64 (L.safe + max 0 (min keep ((BS.size : Int) - L.safe))) = (hh : Int) := by rw [← hhe]; exact IntWalk.wrap64_in _ (by omega)
  clear hB hC hO hBS hrs hrl hm hb0 hb1 htn hsz i hq hrs2 hhe
  have c2' : (q : Int) ≤ ((BS.extract 0 hh).size : Int) := by omega
  have HC3 := Lib.hid c3
  have f6 : ∀ w, (binOp .neq 27 Value.nilIface Value.nilIface).run Tryz.prog w = .ok (.bool false) w := fun w => by kernel_rfl
  have f7 : ∀ o w, (eqGuard .neq 27 (.tmp o) (.const .nilIface) Value.nilIface Value.nilIface).run Tryz.prog w = .ok () w := fun o w => by kernel_rfl
  have HYs := Lib.hid hYs
  have HBL := Lib.hid lB
  clear c3 hYs
  go_enter Tryz.func8, Tryz.ntmps8
  go_wp2_with fail
  go_region
  all_goals go_wp2_with fail
  refine (HL.out _).mono ?_
  rintro e w1 ⟨rfl, rfl⟩
  rw [hLI2]
  go_wp2_with fail
  rw [HC3.out]
  refine (HR.out w.drew hM0.out).mono ?_
  rintro e w1 ⟨b1, n1, rfl, hC1, hn1, hb1, hlt1, hbw⟩
  have hB1 := (show LogBox w.drew g (b + 1) BS L.recs.length L.safe L.left L.st from HB.out).below hbw
  have HC1 := Lib.hid hC1
  have HB1 := Lib.hid hB1
  have cB := hB1.cell
  have lB := hB1.lt
  have fB := hB1.frozen
  have HBW : Hid (Below w.heap.size w w1) := Lib.hid (grow_step (grow_drew (grow_refl _)) hbw)
  have hbg : g ≠ b1 ∧ g ≠ b1 + 1 := by have := HBL.out; have : w.drew.heap.size = w.heap.size := rfl; constructor <;> omega
  clear hB1 hC1 hbw
  go_wp2_with fail
  refine bodyPost_end (results_none rfl _ _ _) rfl ?_
  obtain ⟨W5, hW5⟩ : ∃ W5, (((((w1.setCell ⟨g, 0, none⟩ (.pointer (some ⟨b1 + 1, 0, none⟩))).setCell ⟨g, 2, none⟩ (.int .i64 (rs.length : Int))).setCell ⟨g, 1, none⟩ (.string Y)).setCell ⟨g, 3, none⟩ (.int .i64 (Y.size : Int))).setCell ⟨g, 4, none⟩ (.int .i64 (-1))).setCell ⟨g, 5, none⟩ (.bool false) = W5 := ⟨_, rfl⟩
  have hs5 : But (fun k => k = g) w1 W5 := by
    rw [← hW5]
    exact ((((((But.refl (fun k => k = g) w1).setCell (p := ⟨g, 0, none⟩) (Or.inl rfl) _).setCell (p := ⟨g, 2, none⟩) (Or.inl rfl) _).setCell (p := ⟨g, 1, none⟩) (Or.inl rfl) _).setCell (p := ⟨g, 3, none⟩) (Or.inl rfl) _).setCell (p := ⟨g, 4, none⟩) (Or.inl rfl) _).setCell (p := ⟨g, 5, none⟩) (Or.inl rfl) _
  have hx5 : LogBox W5 g (b1 + 1) Y (rs.length : Int) (Y.size : Int) (-1) false := by
    rw [← hW5]
    exact (((((HB1.out.set_ 0 (.pointer (some ⟨b1 + 1, 0, none⟩))).set_ 2 (.int .i64 (rs.length : Int))).set_ 1 (.string Y)).set_ 3 (.int .i64 (Y.size : Int))).set_ 4 (.int .i64 (-1))).set_ 5 (.bool false)
  have hl5 : rs.length ≤ 30 := HO2.out.many
  rw [hW5]
  refine ⟨rfl, b1, ⟨?_, ⟨n1, by omega, HC1.out.but hs5 (fun e => hbg.1 e.symm) (fun e => hbg.2 e.symm)⟩, HO2.out, hbg.1, hbg.2⟩, hb1, (below_but HBW.out _).trans hs5 (fun _ _ h => h)⟩
  show LogBox W5 g (b1 + 1) (bytesB rs []) (rs.length : Int) (q : Int) (-1) false
  rw [hY, ← HYs.out]
  exact hx5

theorem lgLeast_any (w : World) (g b N : Nat) (L : Lg) (s : ByteArray) (h : LogIs w g b N L) (hs : s.size ≤ 140737488351232) :
    Calls Tryz.prog 9 #[.pointer (some ⟨g, 0, none⟩), .string s] w fun e w' => e = .returned (.tuple #[.int .i64 (if okName s then ofL (raisedL L.recs) s.data.toList else 0), errV (if okName s then 0 else 3)]) ∧ Below w.heap.size w w' := by
  obtain ⟨hB, ⟨n, hn, hC⟩, hO, hg1, hg2⟩ := h
  have HL := cLeast_any b n (raisedL L.recs) s w hC hs
  obtain ⟨V, hV⟩ : ∃ V, (if okName s then ofL (raisedL L.recs) s.data.toList else 0) = V := ⟨_, rfl⟩
  obtain ⟨E, hE⟩ : ∃ E : Int, (if okName s then 0 else 3) = E := ⟨_, rfl⟩
  rw [hV, hE] at HL ⊢
  have HL := Lib.hid HL
  clear hV hE
  have cB := hB.cell
  have lB := hB.lt
  clear hB hC hO
  go_enter Tryz.func9, Tryz.ntmps9
  go_wp2_with fail
  refine HL.out.mono ?_
  rintro e w1 ⟨rfl, hb⟩
  go_wp2_with fail
  go_ret2
  exact ⟨rfl, hb⟩
theorem lgBytes_any (w : World) (g b N : Nat) (L : Lg) (h : LogIs w g b N L) :
    Calls Tryz.prog 10 #[.pointer (some ⟨g, 0, none⟩)] w fun e w' => e = .returned (.int .i64 (bytesB L.recs L.half).size) ∧ w = w' := logBytes_any w g _ _ _ _ _ _ h.1
theorem lgSafe_any (w : World) (g b N : Nat) (L : Lg) (h : LogIs w g b N L) :
    Calls Tryz.prog 11 #[.pointer (some ⟨g, 0, none⟩)] w fun e w' => e = .returned (.int .i64 L.safe) ∧ w = w' := by
  have cB := h.1.cell
  have lB := h.1.lt
  clear h
  go_enter Tryz.func11, Tryz.ntmps11
  go_wp2_with fail
  go_ret
  exact ⟨rfl, rfl⟩

end Go.Proofs.YtkipjloapdolbaaGreatDoor
