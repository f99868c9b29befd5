/- Nonces: Use, of the program and of the reference. -/
import Derived.Test.YtdedllfgeekogaaDoorRows
import Derived.Test.YtdedllfgeekogaaDoorNum
import Derived.Test.YtdedllfgeekogaaDoorBase
import Derived.Test.YtdedllfgeekogaaDoorMeas
import Derived.Test.YtdedllfgeekogaaDoorBank
import Derived.Test.YtdedllfgeekogaaDoorApp
import Derived.Test.YtdedllfgeekogaaDoorRefA
import Derived.Test.YtdedllfgeekogaaDoorFoot
import Derived.Test.YtdedllfgeekogaaDoorNon2
import Derived.Test.YtdedllfgeekogaaDoorShelf
import Derived.WalkKit
import Derived.Lib.Hide
import Derived.Laws.IdiomCopy
import Derived.Deep.RegionWith
import Derived.Deep.RegionLaw
import Derived.OwnWalk
namespace Go.Proofs.YtdedllfgeekogaaDoor
open Go.RowKit
set_option maxRecDepth 100000

/-! Stores one behind the other. -/
def puts (cur : Array Value) : Nat → List Value → Array Value
  | _, [] => cur
  | o, v :: r => puts (cur.setIfInBounds o v) (o + 1) r
theorem puts_size : ∀ (vs : List Value) (o : Nat) (cur : Array Value), (puts cur o vs).size = cur.size
  | [], _, _ => rfl
  | v :: r, o, cur => by rw [puts, puts_size r]; simp
theorem puts_list : ∀ (vs : List Value) (o : Nat) (cur : Array Value), o + vs.length ≤ cur.size → (puts cur o vs).toList = cur.toList.take o ++ vs ++ cur.toList.drop (o + vs.length)
  | [], o, cur, _ => by simp [puts]
  | v :: r, o, cur, h => by
    rw [List.length_cons] at h
    have h1 : o < cur.toList.length := by simpa using (by omega : o < cur.size)
    rw [puts, puts_list r (o + 1) _ (by simp; omega), Array.toList_setIfInBounds, List.length_cons,
      List.take_set, List.drop_set_of_lt (by omega), List.take_succ_eq_append_getElem h1, List.set_append_right _ _ (by simp; omega)]
    have e : o - min o cur.size = 0 := by omega
    simp [e, Nat.add_assoc, Nat.add_comm 1]
theorem Box.puts_ : ∀ (vs : List Value) (o : Nat) (w : World) (b : Nat) (t : TypeId) (cur : Array Value), Box w b t cur → Box (w.setCells b o vs) b t (puts cur o vs)
  | [], _, _, _, _, _, h => h
  | v :: r, o, _, _, _, _, h => Box.puts_ r (o + 1) _ _ _ _ (h.set_ o v)
theorem But.setCells {S : Nat → Prop} {a : World} {b : Nat} (hb : S b) : ∀ (vs : List Value) (o : Nat) (w : World), But S a w → But S a (w.setCells b o vs)
  | [], _, _, h => h
  | v :: r, o, _, h => But.setCells hb r (o + 1) _ (h.setCell (Or.inl hb) v)

theorem own_form {w : World} {A : Option Addr} {c : Nat} {xs : List Int} (h : OwnI w 0 A c xs) (hx : 0 < xs.length) :
    ∃ g cur, A = some ⟨g, 0, none⟩ ∧ Box w g 3 cur ∧ xs.length ≤ c ∧ c ≤ 9223372036854775807 ∧ cur.size = c ∧ cur.toList.take xs.length = xs.map (Value.int .i64) := by
  rcases h.2 with ⟨_, hn⟩ | ⟨g, cap, cur, hv, _, hh, h1, h2, h3, h4⟩
  · omega
  · injection hv with e1 _ e3
    subst e3
    unfold maxLen at h2
    exact ⟨g, cur, e1, hh, h1, by omega, by omega, by rw [Nat.mul_one] at h4; exact h4⟩

theorem own_cut {w : World} {g c n k : Nat} {cur : Array Value} {xs : List Int} (hB : Box w g 3 cur) (hk : k < xs.length) (hc : xs.length ≤ c) (hm : c ≤ 9223372036854775807) (hs : cur.size = c) (hn : n = xs.length) :
    OwnI (w.setCells g 0 (((xs.take n).take k ++ (xs.take n).drop (k + 1) ++ List.replicate (k + 1 - k) 0).map (Value.int .i64))) 0 (some ⟨g, 0, none⟩) c (xs.take k ++ xs.drop (k + 1)) := by
  subst hn
  rw [List.take_length]
  have hl : ((xs.take k ++ xs.drop (k + 1) ++ List.replicate (k + 1 - k) (0 : Int)).map (Value.int .i64)).length = xs.length := by simp; omega
  refine ⟨by simp, Or.inr ⟨g, c, _, rfl, Nat.zero_le _, Box.puts_ _ 0 _ _ _ _ hB, by simp; omega, by unfold maxLen; omega, by rw [puts_size, hs, Nat.mul_one], ?_⟩⟩
  rw [puts_list _ 0 cur (by rw [hl]; omega), List.take_zero, List.nil_append, List.map_append, List.append_assoc, Nat.mul_one]
  rw [List.take_append_of_le_length (by simp), List.take_of_length_le (by simp)]

def hasI (xs : List Int) (v : Int) : Bool := xs.any (fun x => v == x)

/-! slices.Index, with its place; slices.Delete. -/
set_option maxHeartbeats 400000 in
theorem indexAt_any (A : Option Addr) (c : Nat) (xs : List Int) (v : Int) (w : World) (hA : IntsAt w A xs) (hbig : xs.length ≤ 9223372036854775806) :
    Calls Tryd.prog 90 #[.slice A xs.length c, .int .i64 v] w fun e w' => (∃ i : Int, e = .returned (.int .i64 i) ∧ ((hasI xs v = false ∧ i = -1) ∨ ∃ k : Nat, i = k ∧ k < xs.length ∧ hasI xs v = true ∧ xs.erase v = xs.take k ++ xs.drop (k + 1))) ∧ w = w' := by
  have HA := Lib.hid hA
  clear hA
  go_enter Tryd.func90, Tryd.ntmps90
  go_wp2
  go_loop [5, 8] (fun _ i => ∃ k : Nat, k ≤ xs.length ∧ i = .int .i64 k ∧ Hid ((xs.take k).any (fun x => v == x) = false)) (fun _ i => xs.length - (intOf i).toNat)
  case atStart => exact ⟨0, Nat.zero_le _, rfl, Lib.hid (by simp)⟩
  case round =>
    obtain ⟨k, hk, rfl, HP⟩ := hrel
    by_cases hlt : k < xs.length
    · obtain ⟨b, off, rfl, _, hc⟩ := HA.out k hlt
      obtain ⟨x, hxe⟩ : ∃ x, xs.getD k 0 = x := ⟨_, rfl⟩
      rw [hxe] at hc
      have HV := Lib.hid hxe
      clear hxe
      cases hp : v == x
      · have HQ := Lib.hid (any_take_step (pr := fun x => v == x) k hlt HP.out (HV.out ▸ hp))
        go_wp2
        go_round
        case rel => exact ⟨k + 1, by omega, by go_num, HQ⟩
        case measure => simp [intOf]; omega
      · have HQ : Hid (hasI xs v = true) := Lib.hid (any_at (pr := fun x => v == x) k hlt (HV.out ▸ hp))
        have HE := Lib.hid (erase_at xs v k hlt (by rw [HV.out]; exact (by simpa using hp : v = x).symm) HP.out)
        go_wp2
        go_ret
        exact ⟨⟨k, rfl, Or.inr ⟨k, rfl, hlt, HQ.out, HE.out⟩⟩, rfl⟩
    · have HQ : Hid (hasI xs v = false) := Lib.hid (by have := HP.out; rwa [List.take_of_length_le (by omega)] at this)
      go_wp2
      go_ret
      exact ⟨⟨-1, rfl, Or.inl ⟨HQ.out, rfl⟩⟩, rfl⟩

theorem delete_own (A : Option Addr) (c k : Nat) (xs : List Int) (w : World) (hO : OwnI w 0 A c xs) (b : Nat) (hb : ∀ a, A = some a → a.block = b) (hk : k < xs.length) :
    Calls Tryd.prog 91 #[.slice A xs.length c, .int .i64 k, .int .i64 (k + 1)] w fun e w' => e = .returned (.slice A (xs.length - 1) c) ∧ OwnI w' 0 A c (xs.take k ++ xs.drop (k + 1)) ∧ But (fun j => j = b) w w' := by
  obtain ⟨g, cur, rfl, hB, h1, h2, h3, _⟩ := own_form hO (by omega)
  have hgb : g = b := hb _ rfl
  have hi := hO.ints
  have h := Tryd.slices_Delete_int_cells g 0 xs.length c k (k + 1) xs w (Nat.le_refl _) h1 h2 (by omega) (by omega) (fun j hj => by
      obtain ⟨b', off', e, _, hc⟩ := hi j hj
      injection e with e
      injection e with e1 e2
      subst e1; subst e2
      exact hc) (fun j _ => hB.frozen _)
  rw [show ((k + 1 : Nat) : Int) = (k : Int) + 1 from by omega] at h
  refine h.mono ?_
  rintro e w' ⟨rfl, q, rfl⟩
  refine ⟨by rw [Nat.add_sub_cancel_left], own_cut (hB.drewN_ q) hk h1 h2 h3 rfl, But.setCells (S := fun j => j = b) hgb _ _ _ ((But.refl _ w).drewN q)⟩

theorem use_end {T : TypeId} {w wX w' : World} {g b ma n : Nat} {la : Int} {A : Option Addr} {c : Nat} {ys : List Int} {z : Value} (hk2 : But (Foot g b) w wX) (hbl : b < w.heap.size)
    (hat : ∀ a, A = some a → a.block = b ∧ b ≠ g) (G : Box w' g T #[.int .i64 la, .int .i64 ma, z]) (ho : OwnI w' 0 A c ys) (hk' : But (fun k => k = b) wX w') (hn : n = ys.length) :
    NonceIs (w'.setCell ⟨g, 2, none⟩ (.slice A n c)) T g b la ma A c ys ∧ But (Foot g b) w (w'.setCell ⟨g, 2, none⟩ (.slice A n c)) := by
  subst hn
  refine ⟨⟨fset2 G _, own_set ho (fun a ha => by rw [(hat a ha).1]; exact (hat a ha).2) 2 _, hat, ?_⟩, ?_⟩
  · have := Nat.lt_of_lt_of_le hbl (Nat.le_trans hk2.size hk'.size)
    simpa [World.setCell] using this
  · exact (hk2.trans hk' (fun x _ hx => Or.inr hx)).setCell (Or.inl (Or.inl rfl)) _

set_option maxHeartbeats 2000000 in
theorem nUse_yes (g b : Nat) (la : Int) (ma : Nat) (A : Option Addr) (c : Nat) (xs : List Int) (x : Int) (w : World) (hN : NonceIs w 140 g b la ma A c xs) (hx : hasI xs x = true) (hl : xs.length ≤ 1000) :
    Calls Tryd.prog 50 #[.pointer (some ⟨g, 0, none⟩), .int .i64 x] w fun e w' => e = .returned (errV 0) ∧ NonceIs w' 140 g b la ma A c (xs.erase x) ∧ But (Foot g b) w w' := by
  have hB := hN.box
  have HAT := Lib.hid hN.at_
  have hbl := hN.lt
  have hgb : ¬ g = b := by
    have : 0 < xs.length := by
      cases xs with
      | nil => cases hx
      | cons _ _ => simp
    obtain ⟨g', _, rfl, _⟩ := own_form hN.own this
    have := hN.at_ _ rfl
    omega
  have HGB := Lib.hid hgb
  have cB := hB.cell
  have lB := hB.lt
  have fB := hB.frozen
  have HO := Lib.hid hN.own
  clear hN hgb
  go_enter Tryd.func50, Tryd.ntmps50
  go_wp2_with fail
  refine (indexAt_any A c xs x _ HO.out.ints (by omega)).mono ?_
  rintro e w1 ⟨⟨i, rfl, h⟩, rfl⟩
  rcases h with ⟨h, _⟩ | ⟨k, rfl, hk, _, hE⟩
  · rw [hx] at h; cases h
  have HE := Lib.hid hE
  have HX := Lib.hid hx
  have hlen : (xs.erase x).length = xs.length - 1 := by rw [hE]; simp; omega
  have HL := Lib.hid hlen
  clear hE hx hlen
  go_wp2_with (go_at_call 91; refine (delete_own A c k xs _ (by first | exact HO.out | exact HO.out.drew_') b (fun a ha => (HAT.out a ha).1) hk).mono ?_; rintro e w' ⟨rfl, hO', hk'⟩; have G : Box w' g 140 #[.int .i64 la, .int .i64 ma, .slice A xs.length c] := Box.but (by first | exact hB | exact hB.drew_) hk' HGB.out; have cG := G.cell; have fG := G.frozen; have lG := G.lt; rw [← HE.out] at hO')
  have HF := fun (n : Nat) (hn : n = (xs.erase x).length) => Lib.hid (use_end (T := 140) (w := w) (ma := ma) (n := n) (But.refl _ _) hbl HAT.out G hO' hk' hn)
  clear hO' hk' G
  go_ret
  exact ⟨rfl, (HF _ HL.out.symm).out⟩

set_option maxHeartbeats 400000 in
theorem nUse_no (g b : Nat) (la : Int) (ma : Nat) (A : Option Addr) (c : Nat) (xs : List Int) (x : Int) (w : World) (hN : NonceIs w 140 g b la ma A c xs) (hx : hasI xs x = false) (hl : xs.length ≤ 1000) :
    Calls Tryd.prog 50 #[.pointer (some ⟨g, 0, none⟩), .int .i64 x] w fun e w' => e = .returned (errV 5) ∧ w = w' := by
  have cB := hN.box.cell
  have lB := hN.box.lt
  have HO := Lib.hid hN.own
  clear hN
  go_enter Tryd.func50, Tryd.ntmps50
  go_wp2_with fail
  refine (indexAt_any A c xs x _ HO.out.ints (by omega)).mono ?_
  rintro e w1 ⟨⟨i, rfl, h⟩, rfl⟩
  rcases h with ⟨_, rfl⟩ | ⟨k, rfl, hk, h, hE⟩
  · go_wp2_with fail
    go_ret
    exact ⟨rfl, rfl⟩
  · rw [hx] at h; cases h

end Go.Proofs.YtdedllfgeekogaaDoor
