/- Nonces, with what they hold of memory: Issue and Use, of the program and of the reference. -/
import Derived.Test.YtdedllfgeekogaaDoorRows
import Derived.Test.YtdedllfgeekogaaDoorNum
import Derived.Test.YtdedllfgeekogaaDoorBase
import Derived.Test.YtdedllfgeekogaaDoorMeas
import Derived.Test.YtdedllfgeekogaaDoorBank
import Derived.Test.YtdedllfgeekogaaDoorApp
import Derived.Test.YtdedllfgeekogaaDoorRefA
import Derived.Test.YtdedllfgeekogaaDoorFoot
import Derived.WalkKit
import Derived.Lib.Hide
import Derived.Deep.RegionLaw
import Derived.Deep.CutRange
import Derived.Deep.DeepCutAuto
namespace Go.Proofs.YtdedllfgeekogaaDoor
open Go.RowKit
set_option maxRecDepth 100000

structure NonceIs (w : World) (T : TypeId) (g b : Nat) (la : Int) (ma : Nat) (A : Option Addr) (c : Nat) (xs : List Int) : Prop where
  box : Box w g T #[.int .i64 la, .int .i64 ma, .slice A xs.length c]
  own : OwnI w 0 A c xs
  at_ : ∀ a, A = some a → a.block = b ∧ b ≠ g
  lt : b < w.heap.size
def Foot (g b : Nat) : Nat → Prop := fun k => k = g ∨ k = b

theorem NonceIs.but {w w' : World} {T : TypeId} {g b : Nat} {la : Int} {ma : Nat} {A : Option Addr} {c : Nat} {xs : List Int} {S : Nat → Prop} (h : NonceIs w T g b la ma A c xs) (k : But S w w') (h1 : ¬ S g) (h2 : ¬ S b) : NonceIs w' T g b la ma A c xs :=
  ⟨h.box.but k h1, h.own.but k (fun a ha => by rw [(h.at_ a ha).1]; exact h2), h.at_, Nat.lt_of_lt_of_le h.lt k.size⟩
theorem NonceIs.below {w w' : World} {T : TypeId} {g b : Nat} {la : Int} {ma : Nat} {A : Option Addr} {c : Nat} {xs : List Int} (h : NonceIs w T g b la ma A c xs) (k : Below w.heap.size w w') : NonceIs w' T g b la ma A c xs :=
  h.but (below_but k (fun _ => False)) (fun h => h) (fun h => h)
theorem NonceIs.new {w : World} {T : TypeId} {g : Nat} {s : Int} (h : Box w g T #[.int .i64 s, .int .i64 0, .slice none 0 0]) : NonceIs w T g g s 0 none 0 [] :=
  ⟨h, (OwnI.start w 0), fun a ha => (by cases ha), h.lt⟩

theorem foot_ne {A : Option Addr} {b g : Nat} (hat : ∀ a, A = some a → a.block = b ∧ b ≠ g) : ¬ (A ≠ none ∧ g = b) := fun h => by
  rcases A with _ | a0
  · exact h.1 rfl
  · exact (hat a0 rfl).2 h.2.symm
theorem own_set {w : World} {g : Nat} {A : Option Addr} {c : Nat} {xs : List Int} (h : OwnI w 0 A c xs) (hn : ∀ a, A = some a → a.block ≠ g) (i : Nat) (u : Value) : OwnI (w.setCell ⟨g, i, none⟩ u) 0 A c xs :=
  h.but (But.setCell (But.refl (fun k => k = g) w) (Or.inl rfl) u) hn
theorem fset0 {w : World} {g : Nat} {T : TypeId} {x y z : Value} (h : Box w g T #[x, y, z]) (u : Value) : Box (w.setCell ⟨g, 0, none⟩ u) g T #[u, y, z] := by
  have h2 := h.set_ 0 u; simpa using h2
theorem fset1 {w : World} {g : Nat} {T : TypeId} {x y z : Value} (h : Box w g T #[x, y, z]) (u : Value) : Box (w.setCell ⟨g, 1, none⟩ u) g T #[x, u, z] := by
  have h2 := h.set_ 1 u; simpa using h2
theorem fset2 {w : World} {g : Nat} {T : TypeId} {x y z : Value} (h : Box w g T #[x, y, z]) (u : Value) : Box (w.setCell ⟨g, 2, none⟩ u) g T #[x, y, u] := by
  have h2 := h.set_ 2 u; simpa using h2

theorem nonce_end {T : TypeId} {w wX w' : World} {g b b' ma n : Nat} {la : Int} {A A' : Option Addr} {c' : Nat} {zs : List Int} {z : Value} (hk2 : But (Foot g b) w wX) (hgl : g < w.heap.size) (hbl : b < w.heap.size)
    (hat : ∀ a, A = some a → a.block = b ∧ b ≠ g) (G : Box w' g T #[.int .i64 la, .int .i64 ma, z]) (ho : OwnI w' 0 A' c' zs) (hb' : b' = b ∨ b' = wX.heap.size) (hat' : ∀ a, A' = some a → a.block = b' ∧ (b' = b → b < wX.heap.size → A ≠ none))
    (hk' : But (fun k => A ≠ none ∧ k = b) wX w') (hz : 0 < zs.length) (hn : n = zs.length) :
    NonceIs (w'.setCell ⟨g, 2, none⟩ (.slice A' n c')) T g b' la ma A' c' zs ∧ (b' = b ∨ w.heap.size ≤ b') ∧ But (Foot g b) w (w'.setCell ⟨g, 2, none⟩ (.slice A' n c')) := by
  subst hn
  have hbX : b < wX.heap.size := Nat.lt_of_lt_of_le hbl hk2.size
  have hgX : g < wX.heap.size := Nat.lt_of_lt_of_le hgl hk2.size
  have hb2 : ∀ a, A' = some a → b' ≠ g := fun a ha => by
    rcases hb' with e | e
    · subst e
      have := (hat' a ha).2 rfl hbX
      rcases A with _ | a0
      · exact absurd rfl this
      · exact (hat a0 rfl).2
    · omega
  obtain ⟨a, ha⟩ : ∃ a, A' = some a := by
    obtain ⟨g', cap, hv, _⟩ := World.ownsRow.form ho hz
    injection hv with hv _ _
    exact ⟨_, hv⟩
  have hlt' := own_lt ho a ha
  rw [(hat' a ha).1] at hlt'
  refine ⟨⟨fset2 G _, own_set ho (fun a ha => by rw [(hat' a ha).1]; exact hb2 a ha) 2 _, fun a ha => ⟨(hat' a ha).1, hb2 a ha⟩, by simpa [World.setCell] using hlt'⟩, ?_, ?_⟩
  · rcases hb' with e | e
    · exact Or.inl e
    · right; rw [e]; exact hk2.size
  · exact (hk2.trans hk' (fun x _ hx => Or.inr hx.2)).setCell (Or.inl (Or.inl rfl)) _

theorem erase_at : ∀ (xs : List Int) (v : Int) (k : Nat), k < xs.length → xs.getD k 0 = v → (xs.take k).any (fun y => v == y) = false → xs.erase v = xs.take k ++ xs.drop (k + 1)
  | [], _, _, h, _, _ => by simp at h
  | y :: ys, v, 0, _, hv, _ => by
    have : y = v := by simpa using hv
    subst this
    simp
  | y :: ys, v, k + 1, h, hv, hn => by
    have h1 : (v == y) = false ∧ (ys.take k).any (fun y => v == y) = false := by simpa using hn
    have h2 : (y == v) = false := by
      have : v ≠ y := by simpa using h1.1
      simpa using fun e => this e.symm
    rw [List.erase_cons_tail (by rw [h2]; decide), erase_at ys v k (by simpa using h) (by simpa using hv) h1.2]
    simp

theorem OwnI.drew_' {w : World} {b : Nat} {A : Option Addr} {c : Nat} {xs : List Int} (h : OwnI w b A c xs) : OwnI w.drew b A c xs := h

set_option maxHeartbeats 4000000 in
theorem nIssue_more (g b : Nat) (la : Int) (ma : Nat) (A : Option Addr) (c : Nat) (xs : List Int) (w : World) (hN : NonceIs w 140 g b la ma A c xs) (hl : okM la = true) (hm : ma < 30) (hx : xs.length < 8) :
    Calls Tryd.prog 47 #[.pointer (some ⟨g, 0, none⟩)] w fun e w' => ∃ A' c' b', e = .returned (.tuple #[.int .i64 (pairM la ma), errV 0]) ∧ NonceIs w' 140 g b' (pairM la ma) (ma + 1) A' c' (xs ++ [pairM la ma]) ∧ (b' = b ∨ w.heap.size ≤ b') ∧ But (Foot g b) w w' := by
  have kv : okM (ma : Int) = true := okM_mk (by omega) (by omega)
  have g1 : ((xs.length : Int) == 8) = false := by simp; omega
  have g2 : ((ma : Int) == 30) = false := by simp; omega
  have hB := hN.box
  have hgl := hB.lt
  have HAT := Lib.hid hN.at_
  have HNE : Hid (∀ a, A = some a → a.block ≠ g) := Lib.hid (fun a ha => by have := hN.at_ a ha; omega)
  have hbl := hN.lt
  have cB := hB.cell
  have lB := hB.lt
  have fB := hB.frozen
  obtain ⟨V, hV⟩ : ∃ V, pairM la ma = V := ⟨_, rfl⟩
  rw [hV]
  have HV := Lib.hid hV
  have HO := Lib.hid hN.own
  clear hV hN
  go_enter Tryd.func47, Tryd.ntmps47
  go_upto_region 3 with fail
  go_cut [18] (fun _ wx => Hid (Box wx g 140 #[.int .i64 V, .int .i64 ma, .slice A xs.length c]) ∧ Hid (OwnI wx 0 A c xs) ∧ Hid (But (Foot g b) w wx))
  case first =>
    go_region_with (go_at_call 79; refine (pair_any _ _ _ hl kv).mono ?_; rintro e w' ⟨rfl, rfl⟩; rw [HV.out])
    all_goals
      go_wp2_with fail
      go_meet
      exact ⟨Lib.hid (fset0 hB _).drew_, Lib.hid (OwnI.drew_' (own_set HO.out HNE.out 0 _)), Lib.hid (But.drew ((But.refl _ w).setCell (Or.inl (Or.inl rfl)) _))⟩
  case rest =>
  obtain ⟨HB1, HO1, HK1⟩ := hcut
  have cB1 := HB1.out.cell
  have lB1 := HB1.out.lt
  have fB1 := HB1.out.frozen
  clear cB fB
  go_upto_region 5 with fail
  have HB2 := fset1 HB1.out (.int .i64 (ma + 1))
  have HO2 := Lib.hid (own_set HO1.out HNE.out 1 (.int .i64 (ma + 1)))
  have cB2 := HB2.cell
  have lB2 := HB2.lt
  have fB2 := HB2.frozen
  have lB2' := HB2.lt
  have HK2 : Hid (But (Foot g b) w (wc.setCell ⟨g, 1, none⟩ (.int .i64 (ma + 1)))) := Lib.hid (HK1.out.setCell (Or.inl (Or.inl rfl)) _)
  clear cB1 fB1
  go_cut [37] (fun _ wx => ∃ A' c' b', Hid (NonceIs wx 140 g b' V (ma + 1) A' c' (xs ++ [V]) ∧ (b' = b ∨ w.heap.size ≤ b') ∧ But (Foot g b) w wx))
  case first =>
    go_region_law (refine step_app_but rfl (.tmp 41) (.tmp 46) rfl A c xs (by simp [Act.eval]) (HO2.out.below (by repeat (first | exact grow_refl _ | refine grow_alloc ?_ _ | refine grow_drew ?_))) b (fun a ha => (HAT.out a ha).1) (some ⟨(wc.setCell ⟨g, 1, none⟩ (.int .i64 (ma + 1))).heap.size, 0, none⟩) 1 [V] (by simp [Act.eval]) (IntsAt.new_ _ _ [V] (0, 0)) (by simp; omega) ?_; intro A' c' b' w' ho' hb' hat' hk'; have G : Box w' g 140 #[.int .i64 V, .int .i64 ((ma + 1 : Nat) : Int), .slice A xs.length c] := Box.but (by first | exact HB2.alloc_ _ | exact (HB2.alloc_ _).drew_ | exact HB2.drew_.alloc_ _) hk' (foot_ne HAT.out); have cG := G.cell; have fG := G.frozen; have lG := G.lt)
    all_goals
      have HE := fun (n : Nat) (hn : n = (xs ++ [V]).length) => Lib.hid (nonce_end (T := 140) (ma := ma + 1) (n := n) (by first | exact HK2.out.alloc _ | exact (HK2.out.alloc _).drew | exact HK2.out.drew.alloc _) hgl hbl HAT.out G ho' hb' hat' hk' (by simp) hn)
      clear ho' hb' hat' hk' G
      go_wp2_with fail
      go_meet
      exact ⟨A', c', b', HE _ (by simp)⟩
  case rest =>
  obtain ⟨A', c', b', HB3⟩ := hcut
  have cB3 := HB3.out.1.box.cell
  have lB3 := HB3.out.1.box.lt
  clear cB2 fB2
  go_wp2_with fail
  go_ret2
  first | exact ⟨A', c', b', rfl, HB3.out⟩ | exact ⟨rfl, A', c', b', HB3.out⟩

set_option maxHeartbeats 400000 in
theorem nIssue_full (g b : Nat) (la : Int) (ma : Nat) (A : Option Addr) (c : Nat) (xs : List Int) (w : World) (hN : NonceIs w 140 g b la ma A c xs) (hx : xs.length = 8 ∨ xs.length < 8 ∧ ma = 30) :
    Calls Tryd.prog 47 #[.pointer (some ⟨g, 0, none⟩)] w fun e w' => e = .returned (.tuple #[.int .i64 0, errV 4]) ∧ w = w' := by
  have cB := hN.box.cell
  have lB := hN.box.lt
  clear hN
  rcases hx with hx | ⟨hx, hm⟩
  · have g1 : ((xs.length : Int) == 8) = true := by simp; omega
    clear hx
    go_enter Tryd.func47, Tryd.ntmps47
    go_wp2_with fail
    go_ret2
    exact ⟨rfl, rfl⟩
  · have g1 : ((xs.length : Int) == 8) = false := by simp; omega
    have g2 : ((ma : Int) == 30) = true := by simp; omega
    clear hx hm
    go_enter Tryd.func47, Tryd.ntmps47
    go_wp2_with fail
    go_ret2
    exact ⟨rfl, rfl⟩

set_option maxHeartbeats 4000000 in
theorem mIssue_more (g b : Nat) (la : Int) (ma : Nat) (A : Option Addr) (c : Nat) (xs : List Int) (w : World) (hN : NonceIs w 78 g b la ma A c xs) (hl : okM la = true) (hm : ma < 30) (hx : xs.length < 8) :
    Calls Tryd.prog 26 #[.pointer (some ⟨g, 0, none⟩)] w fun e w' => ∃ A' c' b', e = .returned (.tuple #[.int .i64 (pairM la ma), .int .i64 0]) ∧ NonceIs w' 78 g b' (pairM la ma) (ma + 1) A' c' (xs ++ [pairM la ma]) ∧ (b' = b ∨ w.heap.size ≤ b') ∧ But (Foot g b) w w' := by
  have kv : okM (ma : Int) = true := okM_mk (by omega) (by omega)
  have g1 : ¬ ((xs.length : Int) ≥ 8) := by omega
  have g2 : ¬ ((ma : Int) ≥ 30) := by omega
  have hB := hN.box
  have hgl := hB.lt
  have HAT := Lib.hid hN.at_
  have HNE : Hid (∀ a, A = some a → a.block ≠ g) := Lib.hid (fun a ha => by have := hN.at_ a ha; omega)
  have hbl := hN.lt
  have cB := hB.cell
  have lB := hB.lt
  have fB := hB.frozen
  obtain ⟨V, hV⟩ : ∃ V, pairM la ma = V := ⟨_, rfl⟩
  rw [hV]
  have HV := Lib.hid hV
  have HO := Lib.hid hN.own
  clear hV hN
  go_enter Tryd.func26, Tryd.ntmps26
  go_upto_region 3 with fail
  go_cut [17] (fun _ wx => Hid (Box wx g 78 #[.int .i64 V, .int .i64 ma, .slice A xs.length c]) ∧ Hid (OwnI wx 0 A c xs) ∧ Hid (But (Foot g b) w wx))
  case first =>
    go_region_with (go_at_call 61; refine (rTwo_any _ _ _ hl kv).mono ?_; rintro e w' ⟨rfl, rfl⟩; rw [HV.out])
    all_goals
      go_wp2_with fail
      go_meet
      exact ⟨Lib.hid (fset0 hB _).drew_, Lib.hid (OwnI.drew_' (own_set HO.out HNE.out 0 _)), Lib.hid (But.drew ((But.refl _ w).setCell (Or.inl (Or.inl rfl)) _))⟩
  case rest =>
  obtain ⟨HB1, HO1, HK1⟩ := hcut
  have cB1 := HB1.out.cell
  have lB1 := HB1.out.lt
  have fB1 := HB1.out.frozen
  clear cB fB
  go_upto_region 5 with fail
  have HB2 := fset1 HB1.out (.int .i64 (ma + 1))
  have HO2 := Lib.hid (own_set HO1.out HNE.out 1 (.int .i64 (ma + 1)))
  have cB2 := HB2.cell
  have lB2 := HB2.lt
  have fB2 := HB2.frozen
  have lB2' := HB2.lt
  have HK2 : Hid (But (Foot g b) w (wc.setCell ⟨g, 1, none⟩ (.int .i64 (ma + 1)))) := Lib.hid (HK1.out.setCell (Or.inl (Or.inl rfl)) _)
  clear cB1 fB1
  go_cut [36] (fun _ wx => ∃ A' c' b', Hid (NonceIs wx 78 g b' V (ma + 1) A' c' (xs ++ [V]) ∧ (b' = b ∨ w.heap.size ≤ b') ∧ But (Foot g b) w wx))
  case first =>
    go_region_law (refine step_app_but rfl (.tmp 40) (.tmp 45) rfl A c xs (by simp [Act.eval]) (HO2.out.below (by repeat (first | exact grow_refl _ | refine grow_alloc ?_ _ | refine grow_drew ?_))) b (fun a ha => (HAT.out a ha).1) (some ⟨(wc.setCell ⟨g, 1, none⟩ (.int .i64 (ma + 1))).heap.size, 0, none⟩) 1 [V] (by simp [Act.eval]) (IntsAt.new_ _ _ [V] (0, 0)) (by simp; omega) ?_; intro A' c' b' w' ho' hb' hat' hk'; have G : Box w' g 78 #[.int .i64 V, .int .i64 ((ma + 1 : Nat) : Int), .slice A xs.length c] := Box.but (by first | exact HB2.alloc_ _ | exact (HB2.alloc_ _).drew_ | exact HB2.drew_.alloc_ _) hk' (foot_ne HAT.out); have cG := G.cell; have fG := G.frozen; have lG := G.lt)
    all_goals
      have HE := fun (n : Nat) (hn : n = (xs ++ [V]).length) => Lib.hid (nonce_end (T := 78) (ma := ma + 1) (n := n) (by first | exact HK2.out.alloc _ | exact (HK2.out.alloc _).drew | exact HK2.out.drew.alloc _) hgl hbl HAT.out G ho' hb' hat' hk' (by simp) hn)
      clear ho' hb' hat' hk' G
      go_wp2_with fail
      go_meet
      exact ⟨A', c', b', HE _ (by simp)⟩
  case rest =>
  obtain ⟨A', c', b', HB3⟩ := hcut
  have cB3 := HB3.out.1.box.cell
  have lB3 := HB3.out.1.box.lt
  clear cB2 fB2
  go_wp2_with fail
  go_ret2
  first | exact ⟨A', c', b', rfl, HB3.out⟩ | exact ⟨rfl, A', c', b', HB3.out⟩

set_option maxHeartbeats 400000 in
theorem mIssue_full (g b : Nat) (la : Int) (ma : Nat) (A : Option Addr) (c : Nat) (xs : List Int) (w : World) (hN : NonceIs w 78 g b la ma A c xs) (hx : xs.length = 8 ∨ xs.length < 8 ∧ ma = 30) :
    Calls Tryd.prog 26 #[.pointer (some ⟨g, 0, none⟩)] w fun e w' => e = .returned (.tuple #[.int .i64 0, .int .i64 4]) ∧ w = w' := by
  have cB := hN.box.cell
  have lB := hN.box.lt
  clear hN
  rcases hx with hx | ⟨hx, hm⟩
  · have g1 : (xs.length : Int) ≥ 8 := by omega
    clear hx
    go_enter Tryd.func26, Tryd.ntmps26
    go_wp2_with fail
    go_ret2
    exact ⟨rfl, rfl⟩
  · have g1 : ¬ ((xs.length : Int) ≥ 8) := by omega
    have g2 : (ma : Int) ≥ 30 := by omega
    clear hx hm
    go_enter Tryd.func26, Tryd.ntmps26
    go_wp2_with fail
    go_ret2
    exact ⟨rfl, rfl⟩

set_option maxHeartbeats 400000 in
theorem nNew_yes (s : Int) (w : World) (hs : okM s = true) :
    Calls Tryd.prog 45 #[.int .i64 s] w fun e w' => e = .returned (.tuple #[.pointer (some ⟨w.heap.size, 0, none⟩), errV 0]) ∧ w' = w.alloc (.cells #[.int .i64 s, .int .i64 0, .slice none 0 0] 140) := by
  go_enter Tryd.func45, Tryd.ntmps45
  go_wp2_with (go_at_call 44; refine (mIs_any _ _).mono ?_; rintro e w' ⟨rfl, rfl⟩; rw [hs])
  go_ret2
  exact ⟨rfl, rfl⟩
set_option maxHeartbeats 400000 in
theorem nNew_no (s : Int) (w : World) (hs : okM s = false) :
    Calls Tryd.prog 45 #[.int .i64 s] w fun e w' => e = .returned (.tuple #[.pointer none, errV 1]) ∧ w = w' := by
  go_enter Tryd.func45, Tryd.ntmps45
  go_wp2_with (go_at_call 44; refine (mIs_any _ _).mono ?_; rintro e w' ⟨rfl, rfl⟩; rw [hs])
  go_ret2
  exact ⟨rfl, rfl⟩

end Go.Proofs.YtdedllfgeekogaaDoor
