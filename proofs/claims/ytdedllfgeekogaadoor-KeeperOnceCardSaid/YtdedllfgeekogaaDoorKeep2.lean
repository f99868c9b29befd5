/- keeper.Give over any nonces, and rules. -/
import Derived.Test.YtdedllfgeekogaaDoorRows
import Derived.Test.YtdedllfgeekogaaDoorNum
import Derived.Test.YtdedllfgeekogaaDoorBase
import Derived.Test.YtdedllfgeekogaaDoorApp
import Derived.Test.YtdedllfgeekogaaDoorFoot
import Derived.Test.YtdedllfgeekogaaDoorRule
import Derived.Test.YtdedllfgeekogaaDoorOpE
import Derived.Test.YtdedllfgeekogaaDoorEvent
import Derived.Test.YtdedllfgeekogaaDoorJdPlain
import Derived.Test.YtdedllfgeekogaaDoorJudge
import Derived.Test.YtdedllfgeekogaaDoorNon2
import Derived.Test.YtdedllfgeekogaaDoorNon3
import Derived.Test.YtdedllfgeekogaaDoorKeep
import Derived.WalkKit
import Derived.WalkSpells
import Derived.Lib.Hide
import Derived.Deep.DeepCutAuto
import Derived.Deep.RegionHeld3
import Derived.RegionTactic
import Derived.BigRegion
namespace Go.Proofs.YtdedllfgeekogaaDoor
open Go.RowKit
set_option maxRecDepth 100000
set_option linter.unusedSimpArgs false
set_option linter.unusedVariables false

theorem KeptAt.foot {w w' : World} {p s : Int} {rs : List (Int × List Int)} {g b lo k : Nat} {A' : Option Addr} {c' : Nat} {la : Int} {ma : Nat} {A : Option Addr} {c : Nat} {xs : List Int} {n : Int} (h : KeptAt w p s rs g b lo k A' c' la ma A c xs n) (hk : But (Foot g b) w w')
    {b' : Nat} {la' : Int} {ma' : Nat} {A2 : Option Addr} {c2 : Nat} {ys : List Int} (hN : NonceIs w' 140 g b' la' ma' A2 c2 ys) (hb : b' = g ∨ k < b') : KeptAt w' p s rs g b' lo k A' c' la' ma' A2 c2 ys n := by
  have d1 := h.glo
  have d2 := h.lok
  have d3 := h.bk
  exact ⟨hN, h.box.but hk (by intro q; rcases q with q | q <;> omega), h.rul.but hk (by intro j j1 j2 q; rcases q with q | q <;> omega), d1, d2, hb, h.rc⟩
theorem KeptAt.drew {w : World} {p s : Int} {rs : List (Int × List Int)} {g b lo k : Nat} {A' : Option Addr} {c' : Nat} {la : Int} {ma : Nat} {A : Option Addr} {c : Nat} {xs : List Int} {n : Int} (h : KeptAt w p s rs g b lo k A' c' la ma A c xs n) : KeptAt w.drew p s rs g b lo k A' c' la ma A c xs n := h.below (grow_drew (grow_refl _))
/-- given once more. -/
theorem KeptAt.given {w : World} {p s : Int} {rs : List (Int × List Int)} {g b lo k : Nat} {A' : Option Addr} {c' : Nat} {la : Int} {ma : Nat} {A : Option Addr} {c : Nat} {xs : List Int} {n : Int} (h : KeptAt w p s rs g b lo k A' c' la ma A c xs n) (x : Int) : KeptAt (w.setCell ⟨k, 3, none⟩ (.int .i64 x)) p s rs g b lo k A' c' la ma A c xs x := by
  have d1 := h.glo
  have d2 := h.lok
  have d3 := h.bk
  have hk : But (fun j => j = k) w (w.setCell ⟨k, 3, none⟩ (.int .i64 x)) := (But.refl (fun j => j = k) w).setCell (p := ⟨k, 3, none⟩) (Or.inl rfl) _
  exact ⟨h.non.but hk (by intro q; omega) (by intro q; omega), by have q := h.box.set_ 3 (.int .i64 x); simpa using q, h.rul.but hk (by intro j j1 j2 q; omega), d1, d2, d3, h.rc⟩

theorem EvsAt.but' {S : Nat → Prop} {w w' : World} {A : Option Addr} {es : List (Int × Int)} (h : EvsAt w A es) (k : But S w w') (hn : ∀ a, A = some a → es ≠ [] → ¬ S a.block) : EvsAt w' A es := fun i hi => by
  obtain ⟨b, off, e, hlt, h1, h2⟩ := h i hi
  have hx : es ≠ [] := fun h => by subst h; simp at hi
  have eb := k.block b hlt (hn _ e hx)
  exact ⟨b, off, e, Nat.lt_of_lt_of_le hlt k.size, (World.cell?_of_block (w := w) (a := ⟨b, off + i * 2, none⟩) eb).trans h1, (World.cell?_of_block (w := w) (a := ⟨b, off + i * 2 + 1, none⟩) eb).trans h2⟩

def giveE (p n m d q a : Int) (es : List (Int × Int)) (rs : List (Int × List Int)) (xs : List Int) : Int := if hasI xs n = true then sureE p n m d q a n es rs else 5
def giveX (xs : List Int) (n : Int) : List Int := if hasI xs n = true then xs.erase n else xs
def GivePost (w : World) (p s : Int) (rs : List (Int × List Int)) (g b lo k : Nat) (A' : Option Addr) (c' : Nat) (la : Int) (ma : Nat) (A : Option Addr) (c : Nat) (ys : List Int) (n : Nat) (E : Int) (e : Ending) (w' : World) : Prop :=
  e = .returned (.tuple #[.int .i64 (if E = 0 then s else 0), errV E]) ∧ KeptAt w' p s rs g b lo k A' c' la ma A c ys ((if E = 0 then n + 1 else n : Nat) : Int) ∧ But (KFoot g b k) w w'

set_option maxHeartbeats 2000000 in
theorem kGive_any (w : World) (p s : Int) (rs : List (Int × List Int)) (g b lo k : Nat) (A' : Option Addr) (c' : Nat) (la : Int) (ma : Nat) (A : Option Addr) (c : Nat) (xs : List Int) (n : Nat) (hK : KeptAt w p s rs g b lo k A' c' la ma A c xs (n : Int)) (hn : n ≤ 1000000) (hx : xs.length ≤ 1000)
    (z m d pp a : Int) (Q : Option Addr) (es : List (Int × Int)) (ec : Nat) (hE : EvsAt w Q es) (hbe : es.length ≤ 9223372036854775806) (hgA : ∀ a, Q = some a → es ≠ [] → ¬ Foot g b a.block) (hbr : rs.length ≤ 1000000) (hgl : ∀ r ∈ rs, r.2.length ≤ 1000000) :
    Calls Tryd.prog 15 #[.pointer (some ⟨k, 0, none⟩), .agg #[.int .i64 z, .int .i64 m, .int .i64 d, .int .i64 pp, .int .i64 a], .slice Q es.length ec] w (GivePost w p s rs g b lo k A' c' la ma A c (giveX xs z) n (giveE p z m d pp a es rs xs)) := by
  have en := fun k w => err_neq k w
  have gn := fun o k w => err_guard_neq o k w
  have d1 := hK.glo
  have d2 := hK.lok
  have d3 := hK.bk
  have hbA := hK.non.lt
  have hkA := hK.box.lt
  have hQ0 : w.heap.size ≠ g := by omega
  have hQ1 : w.heap.size ≠ b := by omega
  have GK := (hK.below (grow_alloc (grow_refl _) (.cells #[.int .i64 z, .int .i64 m, .int .i64 d, .int .i64 pp, .int .i64 a] 53))).drew
  have GQ := (Box.new w 53 #[.int .i64 z, .int .i64 m, .int .i64 d, .int .i64 pp, .int .i64 a]).drew_
  have GE : EvsAt (w.alloc (.cells #[.int .i64 z, .int .i64 m, .int .i64 d, .int .i64 pp, .int .i64 a] 53)).drew Q es := hE.below (grow_drew (grow_alloc (grow_refl _) _))
  have GT : But (KFoot g b k) w (w.alloc (.cells #[.int .i64 z, .int .i64 m, .int .i64 d, .int .i64 pp, .int .i64 a] 53)).drew := ((But.refl _ w).alloc _).drew
  have HGL : Hid (∀ r ∈ rs, r.2.length ≤ 9223372036854775806) := Lib.hid (fun r hr => by have := hgl r hr; omega)
  have HGA := Lib.hid hgA
  have HNG : ∀ j, Foot g b j → KFoot g b k j := fun j h => by rcases h with h | h; exact Or.inl h; exact Or.inr (Or.inl h)
  have HNG := Lib.hid HNG
  clear hE hgl hgA
  cases hh : hasI xs z
  · have HG : Hid (giveE p z m d pp a es rs xs = 5 ∧ giveX xs z = xs) := Lib.hid (by unfold giveE giveX; rw [hh]; exact ⟨rfl, rfl⟩)
    have HH := Lib.hid hh
    have HX := Lib.hid hx
    clear hh hx hK
    rw [HG.out.1, HG.out.2]
    go_enter Tryd.func15, Tryd.ntmps15
    go_wp2_with fail
    go_region_held3 (fun w' => (∀ i, w'.cell? ⟨k, i, none⟩ = (#[.pointer (some ⟨g, 0, none⟩), .int .i64 p, .int .i64 s, .int .i64 n, .slice A' rs.length c'] : Array Value)[i]?) ∧ (∀ i, w'.cell? ⟨w.heap.size, i, none⟩ = (#[.int .i64 z, .int .i64 m, .int .i64 d, .int .i64 pp, .int .i64 a] : Array Value)[i]?))
      (first
        | exact ⟨GK.box.cell, GQ.cell⟩
        | (go_keep; done))
      (first
        | (go_at_call 50; refine (nUse_no g b la ma A c xs z _ GK.non HH.out HX.out).mono ?_; rintro e w5 ⟨rfl, rfl⟩))
    go_wp2_with fail
    go_ret2
    exact ⟨rfl, GK, GT⟩
  · have HG : Hid (giveE p z m d pp a es rs xs = sureE p z m d pp a z es rs ∧ giveX xs z = xs.erase z) := Lib.hid (by unfold giveE giveX; rw [hh]; exact ⟨rfl, rfl⟩)
    have HH := Lib.hid hh
    have HX := Lib.hid hx
    obtain ⟨E, hEE⟩ : ∃ E, sureE p z m d pp a z es rs = E := ⟨_, rfl⟩
    have HEE := Lib.hid hEE
    rw [HG.out.1, HG.out.2, hEE]
    clear hh hx hK hEE HG
    go_enter Tryd.func15, Tryd.ntmps15
    go_wp2_with fail
    go_region_held3 (fun w' => (∀ i, w'.cell? ⟨k, i, none⟩ = (#[.pointer (some ⟨g, 0, none⟩), .int .i64 p, .int .i64 s, .int .i64 n, .slice A' rs.length c'] : Array Value)[i]?) ∧ (∀ i, w'.cell? ⟨w.heap.size, i, none⟩ = (#[.int .i64 z, .int .i64 m, .int .i64 d, .int .i64 pp, .int .i64 a] : Array Value)[i]?))
      (first
        | exact ⟨GK.box.cell, GQ.cell⟩
        | (go_keep; done))
      (first
        | (go_at_call 50; refine (nUse_yes g b la ma A c xs z _ GK.non HH.out HX.out).mono ?_; rintro e w5 ⟨rfl, hN5, hk5⟩; have GK := GK.foot hk5 hN5 d3; have GQ := GQ.but hk5 (by intro h; rcases h with h | h <;> omega); have GT := GT.trans hk5 (fun j _ h => HNG.out j h); have GE := GE.but' hk5 HGA.out))
    have HK5 := Lib.hid GK
    have HQ5 := Lib.hid GQ
    have HT5 := Lib.hid GT
    have HE5 := Lib.hid GE
    clear GK GQ GT GE
    go_wp2_with fail
    have GK := HK5.out.drew
    have GQ := HQ5.out.drew_
    have GT := HT5.out.drew
    have GE := HE5.out.below (grow_drew (grow_refl _))
    clear HK5 HQ5 HT5 HE5
    go_region_held3 (fun w' => (∀ i, w'.cell? ⟨k, i, none⟩ = (#[.pointer (some ⟨g, 0, none⟩), .int .i64 p, .int .i64 s, .int .i64 n, .slice A' rs.length c'] : Array Value)[i]?) ∧ (∀ i, w'.cell? ⟨w.heap.size, i, none⟩ = (#[.int .i64 z, .int .i64 m, .int .i64 d, .int .i64 pp, .int .i64 a] : Array Value)[i]?))
      (first
        | exact ⟨GK.box.cell, GQ.cell⟩
        | (go_keep; done))
      (first
        | (go_at_call 31; refine (judgeSure_any p z m d pp a z Q es ec A' rs c' _ GE hbe GK.rul.at_ GK.rc (by omega) HGL.out).mono ?_; rintro e w6 ⟨rfl, hb6⟩; rw [HEE.out]; have GK := GK.below hb6; have GQ := GQ.below hb6; have GT := GT.trans (below_but hb6 (KFoot g b k)) (fun j _ h => h)))
    have HK6 := Lib.hid GK
    have HT6 := Lib.hid GT
    have cK := GK.box.cell
    have lK := GK.box.lt
    have fK := GK.box.frozen
    clear GK GQ GT GE
    by_cases h0 : E = 0
    · subst h0
      go_wp2_with fail
      go_ret2
      refine ⟨rfl, ?_, HT6.out.setCell (Or.inl (Or.inr (Or.inr rfl))) _⟩
      have h := HK6.out.given ((n : Int) + 1)
      exact h
    · have t : (E != 0) = true := by simp [h0]
      have HN0 := Lib.hid h0
      clear h0
      go_wp2_with fail
      go_ret2
      refine ⟨by rw [if_neg HN0.out]; rfl, by rw [if_neg HN0.out]; exact HK6.out, HT6.out⟩

theorem kGive_no (w : World) (p s : Int) (rs : List (Int × List Int)) (g b lo k : Nat) (A' : Option Addr) (c' : Nat) (la : Int) (ma : Nat) (A : Option Addr) (c : Nat) (xs : List Int) (n : Nat) (hK : KeptAt w p s rs g b lo k A' c' la ma A c xs (n : Int)) (hn : n ≤ 1000000) (hx : xs.length ≤ 1000)
    (z m d pp a : Int) (Q : Option Addr) (es : List (Int × Int)) (ec : Nat) (hE : EvsAt w Q es) (hbe : es.length ≤ 9223372036854775806) (hgA : ∀ a, Q = some a → es ≠ [] → ¬ Foot g b a.block) (hbr : rs.length ≤ 1000000) (hgl : ∀ r ∈ rs, r.2.length ≤ 1000000) (hh : hasI xs z = false) :
    Calls Tryd.prog 15 #[.pointer (some ⟨k, 0, none⟩), .agg #[.int .i64 z, .int .i64 m, .int .i64 d, .int .i64 pp, .int .i64 a], .slice Q es.length ec] w fun e w' => e = .returned (.tuple #[.int .i64 0, errV 5]) ∧ KeptAt w' p s rs g b lo k A' c' la ma A c xs (n : Int) ∧ But (KFoot g b k) w w' := by
  have h := kGive_any w p s rs g b lo k A' c' la ma A c xs n hK hn hx z m d pp a Q es ec hE hbe hgA hbr hgl
  have e1 : giveE p z m d pp a es rs xs = 5 := by unfold giveE; rw [hh]; rfl
  have e2 : giveX xs z = xs := by unfold giveX; rw [hh]; rfl
  rw [e1, e2] at h
  exact h
theorem kGive_ok (w : World) (p s : Int) (rs : List (Int × List Int)) (g b lo k : Nat) (A' : Option Addr) (c' : Nat) (la : Int) (ma : Nat) (A : Option Addr) (c : Nat) (xs : List Int) (n : Nat) (hK : KeptAt w p s rs g b lo k A' c' la ma A c xs (n : Int)) (hn : n ≤ 1000000) (hx : xs.length ≤ 1000)
    (z m d pp a : Int) (Q : Option Addr) (es : List (Int × Int)) (ec : Nat) (hE : EvsAt w Q es) (hbe : es.length ≤ 9223372036854775806) (hgA : ∀ a, Q = some a → es ≠ [] → ¬ Foot g b a.block) (hbr : rs.length ≤ 1000000) (hgl : ∀ r ∈ rs, r.2.length ≤ 1000000) (hh : hasI xs z = true) (h0 : sureE p z m d pp a z es rs = 0) :
    Calls Tryd.prog 15 #[.pointer (some ⟨k, 0, none⟩), .agg #[.int .i64 z, .int .i64 m, .int .i64 d, .int .i64 pp, .int .i64 a], .slice Q es.length ec] w fun e w' => e = .returned (.tuple #[.int .i64 s, errV 0]) ∧ KeptAt w' p s rs g b lo k A' c' la ma A c (xs.erase z) ((n + 1 : Nat) : Int) ∧ But (KFoot g b k) w w' := by
  have h := kGive_any w p s rs g b lo k A' c' la ma A c xs n hK hn hx z m d pp a Q es ec hE hbe hgA hbr hgl
  have e1 : giveE p z m d pp a es rs xs = 0 := by unfold giveE; rw [hh, if_pos rfl, h0]
  have e2 : giveX xs z = xs.erase z := by unfold giveX; rw [hh]; rfl
  rw [e1, e2] at h
  exact h
theorem kGive_bad (w : World) (p s : Int) (rs : List (Int × List Int)) (g b lo k : Nat) (A' : Option Addr) (c' : Nat) (la : Int) (ma : Nat) (A : Option Addr) (c : Nat) (xs : List Int) (n : Nat) (hK : KeptAt w p s rs g b lo k A' c' la ma A c xs (n : Int)) (hn : n ≤ 1000000) (hx : xs.length ≤ 1000)
    (z m d pp a : Int) (Q : Option Addr) (es : List (Int × Int)) (ec : Nat) (hE : EvsAt w Q es) (hbe : es.length ≤ 9223372036854775806) (hgA : ∀ a, Q = some a → es ≠ [] → ¬ Foot g b a.block) (hbr : rs.length ≤ 1000000) (hgl : ∀ r ∈ rs, r.2.length ≤ 1000000) (hh : hasI xs z = true) (E : Int) (h0 : sureE p z m d pp a z es rs = E) (hE0 : E ≠ 0) :
    Calls Tryd.prog 15 #[.pointer (some ⟨k, 0, none⟩), .agg #[.int .i64 z, .int .i64 m, .int .i64 d, .int .i64 pp, .int .i64 a], .slice Q es.length ec] w fun e w' => e = .returned (.tuple #[.int .i64 0, errV E]) ∧ KeptAt w' p s rs g b lo k A' c' la ma A c (xs.erase z) (n : Int) ∧ But (KFoot g b k) w w' := by
  have h := kGive_any w p s rs g b lo k A' c' la ma A c xs n hK hn hx z m d pp a Q es ec hE hbe hgA hbr hgl
  have e1 : giveE p z m d pp a es rs xs = E := by unfold giveE; rw [hh, if_pos rfl, h0]
  have e2 : giveX xs z = xs.erase z := by unfold giveX; rw [hh]; rfl
  rw [e1, e2] at h
  unfold GivePost at h
  simp only [if_neg hE0] at h
  exact h
theorem evs_lt {w : World} {A : Option Addr} {es : List (Int × Int)} (h : EvsAt w A es) (hx : es ≠ []) : ∀ a, A = some a → a.block < w.heap.size := fun a ha => by
  obtain ⟨b, off, e, hl, _⟩ := h 0 (by rcases es with _ | _; exact absurd rfl hx; simp)
  rw [ha] at e
  injection e with e
  subst e
  exact hl
theorem KeptAt.lts {w : World} {p s : Int} {rs : List (Int × List Int)} {g b lo k : Nat} {A' : Option Addr} {c' : Nat} {la : Int} {ma : Nat} {A : Option Addr} {c : Nat} {xs : List Int} {n : Int} (h : KeptAt w p s rs g b lo k A' c' la ma A c xs n) : g < k ∧ (b = g ∨ k < b) ∧ k < w.heap.size ∧ b < w.heap.size :=
  ⟨by have := h.glo; have := h.lok; omega, h.bk, h.box.lt, h.non.lt⟩

end Go.Proofs.YtdedllfgeekogaaDoor
