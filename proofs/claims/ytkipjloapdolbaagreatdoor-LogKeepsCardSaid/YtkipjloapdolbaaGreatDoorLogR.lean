/- log.Raise over a plain record of a log. -/
import Derived.Test.YtkipjloapdolbaaGreatDoorRows
import Derived.Test.YtkipjloapdolbaaGreatDoorNum
import Derived.Test.YtkipjloapdolbaaGreatDoorBase
import Derived.Test.YtkipjloapdolbaaGreatDoorFoot
import Derived.Test.YtkipjloapdolbaaGreatDoorImg
import Derived.Test.YtkipjloapdolbaaGreatDoorImg2
import Derived.Test.YtkipjloapdolbaaGreatDoorCount
import Derived.Test.YtkipjloapdolbaaGreatDoorCntP
import Derived.Test.YtkipjloapdolbaaGreatDoorCntC
import Derived.Test.YtkipjloapdolbaaGreatDoorLiftT
import Derived.Test.YtkipjloapdolbaaGreatDoorLines
import Derived.Test.YtkipjloapdolbaaGreatDoorLogP
import Derived.Test.YtkipjloapdolbaaGreatDoorLogA
import Derived.Test.YtkipjloapdolbaaGreatDoorRedo
import Derived.Test.YtkipjloapdolbaaGreatDoorLogM
import Derived.WalkKit
import Derived.WalkSpells
import Derived.WalkLawsBesides
import Derived.Lib.Hide
import Derived.Deep.RegionHeld3
namespace Go.Proofs.YtkipjloapdolbaaGreatDoor
open Go.RowKit
set_option maxRecDepth 100000
set_option linter.unusedVariables false
set_option linter.unusedSimpArgs false

/-- A log, plainly: its records, half of one more, how much is safe, the steps left, whether it has stopped. -/
structure Lg where
  recs : List Rec
  half : List UInt8
  safe : Int
  left : Int
  st : Bool
def bytesB (rs : List Rec) (half : List UInt8) : ByteArray := ⟨(flatB (recsB rs) ++ half).toArray⟩
theorem bytesB_data (rs : List Rec) (half : List UInt8) : (bytesB rs half).data.toList = flatB (recsB rs) ++ half := rfl
structure LgOK (L : Lg) : Prop where
  recs : RecsOK L.recs
  many : L.recs.length ≤ 30
  half : L.half.length ≤ 14
  noNl : ∀ c ∈ L.half, c ≠ 10
  whole : L.st = false → L.half = []
  safe0 : 0 ≤ L.safe
  safe1 : L.safe ≤ ((flatB (recsB L.recs)).length : Int)
  left0 : -1 ≤ L.left
  left1 : L.left ≤ 9223372036854775807
theorem recS_len {s : ByteArray} {v : Int} (hs : s.size ≤ 8) (h0 : 0 ≤ v) (h1 : v ≤ 1000) : (recS s v).size ≤ 14 := by
  have := itoa_len h0 h1
  rw [recS_size]; omega
theorem flat_len : ∀ (rs : List Rec), RecsOK rs → (flatB (recsB rs)).length ≤ 14 * rs.length := by
  have gen : ∀ (q p : List Rec), RecsOK (p ++ q) → (flatB (recsB q)).length ≤ 14 * q.length := by
    intro q
    induction q with
    | nil => intro p _; simp [recsB, flatB]
    | cons r q ih =>
      intro p h
      obtain ⟨_, _, _, g2, _, g4, g5⟩ := raiseB_ok (h p r q rfl)
      have h1 := ih (p ++ [r]) (by rw [List.append_assoc]; exact h)
      have h2 := recS_len g2 g4 g5
      have e : recsB (r :: q) = recB r :: recsB q := rfl
      rw [e, flatB_cons, List.length_append, size_list, List.length_cons]
      have h3 : (recB r).size ≤ 14 := h2
      omega
  intro rs h
  exact gen rs [] h
theorem bytesB_size {L : Lg} (h : LgOK L) : (bytesB L.recs L.half).size ≤ 500 := by
  rw [← size_list, bytesB_data, List.length_append]
  have h1 := flat_len _ h.recs
  have h2 := h.many
  have h3 := h.half
  omega
theorem bytesB_snoc (rs : List Rec) (s : ByteArray) (v : Int) : bytesB rs [] ++ recS s v = bytesB (rs ++ [(s, v)]) [] := by
  refine bytes_ext ?_
  have e : recsB (rs ++ [(s, v)]) = recsB rs ++ [recB (s, v)] := List.map_append
  have e2 : flatB [recB (s, v)] = (recB (s, v)).data.toList := by rw [flatB_cons]; simp [flatB]
  rw [bytesB_data, e, flatB_app, e2, List.append_nil]
  show (bytesB rs [] ++ recS s v).data.toList = _
  have e3 : (bytesB rs [] ++ recS s v).data.toList = (bytesB rs []).data.toList ++ (recS s v).data.toList := by simp
  rw [e3, bytesB_data, List.append_nil]
  rfl
def LogIs (w : World) (g b N : Nat) (L : Lg) : Prop :=
  LogBox w g (b + 1) (bytesB L.recs L.half) L.recs.length L.safe L.left L.st ∧ (∃ n, n ≤ N ∧ CE w b n (raisedL L.recs)) ∧ LgOK L ∧ g ≠ b ∧ g ≠ b + 1
theorem LogIs.but {S : Nat → Prop} {w w' : World} {g b N : Nat} {L : Lg} (h : LogIs w g b N L) (hb : But S w w') (h1 : ¬ S g) (h2 : ¬ S b) (h3 : ¬ S (b + 1)) : LogIs w' g b N L := by
  obtain ⟨a1, ⟨n, hn, a2⟩, a3⟩ := h
  exact ⟨Box.but a1 hb h1, ⟨n, hn, a2.but hb h2 h3⟩, a3⟩
theorem LogIs.below {w w' : World} {g b N : Nat} {L : Lg} (h : LogIs w g b N L) (hb : Below w.heap.size w w') : LogIs w' g b N L := h.but (below_but hb (fun _ => False)) (fun h => h) (fun h => h) (fun h => h)
theorem LogIs.mono {w : World} {g b N M : Nat} {L : Lg} (h : LogIs w g b N L) (hm : N ≤ M) : LogIs w g b M L := by
  obtain ⟨a1, ⟨n, hn, a2⟩, a3⟩ := h
  exact ⟨a1, ⟨n, by omega, a2⟩, a3⟩
theorem LogIs.ltg {w : World} {g b N : Nat} {L : Lg} (h : LogIs w g b N L) : g < w.heap.size := h.1.lt
theorem LogIs.ltb {w : World} {g b N : Nat} {L : Lg} (h : LogIs w g b N L) : b + 1 < w.heap.size := by
  obtain ⟨_, ⟨n, _, D, h1, _⟩, _⟩ := h
  exact h1.lt
/-- What the log's steps need of the tables, whatever they change of their own. -/
def Held (w : World) (g b : Nat) : Prop := ∀ w', But (fun k => k = g ∨ k = b) w w' → TabT w' ∧ MaxT w'
theorem Held.of {w0 w : World} (ht : TabT w0) (hm : MaxT w0) (hb : Below w0.heap.size w0 w) {g b : Nat} (hg : w0.heap.size ≤ g) (hbb : w0.heap.size ≤ b) : Held w g b := fun w' hk =>
  have h := hb.trans (hk.below hb.size (fun j e => by rcases e with e | e <;> omega))
  ⟨ht.below h, hm.below h⟩
/-- What Raise answers, and what it leaves. -/
def raiseOut (L : Lg) (s : ByteArray) (v : Int) : (Bool × Int) × Lg :=
  if L.st then ((false, 6), L)
  else if raiseB (raisedL L.recs) s v then
    if L.recs.length = 30 then ((false, 4), L)
    else if L.left = 0 then ((false, 6), { recs := L.recs, half := (recS s v).data.toList.take ((recS s v).size / 2), safe := L.safe, left := -1, st := true })
    else ((true, 0), { recs := L.recs ++ [(s, v)], half := [], safe := L.safe, left := max (-1) (L.left - 1), st := false })
  else ((false, raiseE (raisedL L.recs) s v), L)
def LgPost (w : World) (g b N : Nat) (out : (Bool × Int) × Lg) (e : Ending) (w' : World) : Prop :=
  e = .returned (.tuple #[.bool out.1.1, errV out.1.2]) ∧ ∃ b', LogIs w' g b' (N + 31) out.2 ∧ (b' = b ∨ w.heap.size ≤ b') ∧ But (fun k => k = g ∨ k = b) w w'

theorem lgRaise_stopped (w : World) (g b N : Nat) (L : Lg) (s : ByteArray) (v : Int) (h : LogIs w g b N L) (hst : L.st = true) :
    Calls Tryz.prog 6 #[.pointer (some ⟨g, 0, none⟩), .string s, .int .i64 v] w (LgPost w g b N ((false, 6), L)) := by
  have cB := h.1.cell
  have lB := h.1.lt
  rw [hst] at cB
  have H := Lib.hid h
  clear h hst
  go_enter Tryz.func6, Tryz.ntmps6
  go_wp2_with fail
  go_ret2
  exact ⟨rfl, b, H.out.mono (by omega), Or.inl rfl, But.refl _ _⟩

set_option maxHeartbeats 1000000 in
theorem lgRaise_no (w : World) (g b N : Nat) (L : Lg) (s : ByteArray) (v : Int) (h : LogIs w g b N L) (hst : L.st = false) (hs : s.size ≤ 140737488351232) (hN : N ≤ 900000) (hr : raiseB (raisedL L.recs) s v = false) :
    Calls Tryz.prog 6 #[.pointer (some ⟨g, 0, none⟩), .string s, .int .i64 v] w (LgPost w g b N ((false, raiseE (raisedL L.recs) s v), L)) := by
  have en := fun k w => err_neq k w
  have gn := fun o k w => err_guard_neq o k w
  obtain ⟨hB, ⟨n, hn, hC⟩, hO, hg1, hg2⟩ := h
  have HR := Lib.hid (cRaise_any b n (raisedL L.recs) s v w hC hs (by omega) (raisedL_len _))
  have hl : raiseL (raisedL L.recs) s v = raisedL L.recs := by
    unfold raiseB at hr
    unfold raiseL
    split at hr
    · split at hr
      · rw [if_pos (by assumption), if_pos (by assumption)]
      · split at hr
        · rw [if_pos (by assumption), if_neg (by assumption), if_pos (by assumption)]
        · split at hr
          · cases hr
          · split at hr
            · cases hr
            · rw [if_pos (by assumption), if_neg (by assumption), if_neg (by assumption), if_neg (by assumption), if_neg (by assumption)]
    · rw [if_neg (by assumption)]
  rw [hr, hl] at HR
  obtain ⟨E, hE⟩ : ∃ E, raiseE (raisedL L.recs) s v = E := ⟨_, rfl⟩
  rw [hE] at HR ⊢
  have cB := hB.cell
  have lB := hB.lt
  rw [hst] at cB
  have HB := Lib.hid hB
  have HO := Lib.hid hO
  clear hB hC hO hr hl hE hst
  by_cases h0 : E = 0
  all_goals
    first
    | (have t : (E != 0) = false := by simp [h0])
    | (have t : (E != 0) = true := by simp [h0])
    have H0 := Lib.hid h0
    clear h0
    go_enter Tryz.func6, Tryz.ntmps6
    go_wp2_with fail
    refine HR.out.mono ?_
    rintro e w1 ⟨rfl, ⟨n1, hn1, hC1⟩, hk⟩
    have HC1 := Lib.hid hC1
    clear hC1
    go_wp2_with fail
    go_ret2
    exact ⟨rfl, b, ⟨HB.out.but hk hg1, ⟨n1, by omega, HC1.out⟩, HO.out, hg1, hg2⟩, Or.inl rfl, hk.mono (fun _ _ h => Or.inr h)⟩

set_option maxHeartbeats 1000000 in
/-- So many records already. -/
theorem lgRaise_full (w : World) (g b N : Nat) (L : Lg) (s : ByteArray) (v : Int) (h : LogIs w g b N L) (hst : L.st = false) (hs : s.size ≤ 140737488351232) (hN : N ≤ 900000) (hr : raiseB (raisedL L.recs) s v = true) (h30 : L.recs.length = 30) (hT : Held w g b) :
    Calls Tryz.prog 6 #[.pointer (some ⟨g, 0, none⟩), .string s, .int .i64 v] w (LgPost w g b N ((false, 4), L)) := by
  have en := fun k w => err_neq k w
  have gn := fun o k w => err_guard_neq o k w
  obtain ⟨hB, ⟨n, hn, hC⟩, hO, hg1, hg2⟩ := h
  have HR := Lib.hid (cRaise_any b n (raisedL L.recs) s v w hC hs (by omega) (raisedL_len _))
  obtain ⟨h0, _⟩ := raiseB_ok hr
  rw [hr, h0] at HR
  have hwh := hO.whole hst
  have hsz := bytesB_size hO
  have cB := hB.cell
  have lB := hB.lt
  rw [hst] at cB
  have t30 : (L.recs.length : Int) = 30 := by omega
  have HBK := Lib.hid (fun (w : World) (hB : LogBox w g (b + 1) (bytesB L.recs L.half) L.recs.length L.safe L.left L.st) (hM : MaxT w) => logBack_any w g (b + 1) (bytesB L.recs L.half) L.recs.length L.safe L.left L.st L.recs 4 hB (by rw [bytesB_data, hwh, List.append_nil]) hO.recs (by omega) (by omega) hM)
  have HB := Lib.hid hB
  have HO := Lib.hid hO
  have HT := Lib.hid hT
  clear hB hC hO hr h0 hwh hT
  go_enter Tryz.func6, Tryz.ntmps6
  go_wp2_with fail
  refine HR.out.mono ?_
  rintro e w1 ⟨rfl, ⟨n1, hn1, hC1⟩, hk⟩
  have hb1 := HB.out.but hk hg1
  have HB1 := Lib.hid hb1
  have cB := hb1.cell
  have lB := hb1.lt
  rw [hst] at cB
  have hk' : But (fun k => k = g ∨ k = b) w w1 := hk.mono (fun _ _ h => Or.inr h)
  have HM := Lib.hid (HT.out _ hk').2
  clear hb1 hC1 hst h30
  go_wp2_with fail
  refine (HBK.out _ HB1.out HM.out).mono ?_
  rintro e w2 ⟨rfl, b2, n2, hB2, hC2, hn2, hb2, hk2⟩
  have HB2 := Lib.hid hB2
  have HC2 := Lib.hid hC2
  have hz1 := hk.size
  clear hB2 hC2
  go_wp2_with fail
  go_ret2
  have hg2' : g < w.heap.size := HB.out.lt
  exact ⟨rfl, b2, ⟨HB2.out, ⟨n2, by have := HO.out.many; omega, HC2.out⟩, HO.out, by omega, by omega⟩, Or.inr (by omega), hk'.trans (hk2.mono (S' := fun k => k = g ∨ k = b) (fun _ _ h => Or.inl h)) (fun _ _ h => h)⟩

set_option maxHeartbeats 1000000 in
/-- A record more. -/
theorem lgRaise_ok (w : World) (g b N : Nat) (L : Lg) (s : ByteArray) (v : Int) (h : LogIs w g b N L) (hst : L.st = false) (hs : s.size ≤ 140737488351232) (hN : N ≤ 900000) (hr : raiseB (raisedL L.recs) s v = true) (h30 : L.recs.length ≠ 30) (hl0 : L.left ≠ 0) (hT : Held w g b) :
    Calls Tryz.prog 6 #[.pointer (some ⟨g, 0, none⟩), .string s, .int .i64 v] w (LgPost w g b N ((true, 0), { recs := L.recs ++ [(s, v)], half := [], safe := L.safe, left := max (-1) (L.left - 1), st := false })) := by
  have en := fun k w => err_neq k w
  have gn := fun o k w => err_guard_neq o k w
  obtain ⟨hB, ⟨n, hn, hC⟩, hO, hg1, hg2⟩ := h
  have HR := Lib.hid (cRaise_any b n (raisedL L.recs) s v w hC hs (by omega) (raisedL_len _))
  obtain ⟨h0, hs1, hs2, hs3, hs4, v0, v1⟩ := raiseB_ok hr
  rw [hr, h0] at HR
  have hwh := hO.whole hst
  have hsz := bytesB_size hO
  have cB := hB.cell
  have lB := hB.lt
  rw [hst] at cB
  have hmany := hO.many
  have t30 : ¬ (L.recs.length : Int) = 30 := by omega
  have hv4 := itoa_len v0 v1
  have e1 : ({ data := #[32] } : ByteArray).size = 1 := rfl
  have e2 : ({ data := #[10] } : ByteArray).size = 1 := rfl
  have f1 : ∀ w, (Op.stringOp .add s { data := #[32] }).run Tryz.prog w = .ok (.string (s ++ { data := #[32] })) w := fun w => run_string_add_sum _ _ _ (by omega)
  have f2 : ∀ w, (Op.stringOp .add (s ++ { data := #[32] }) (itoaS v)).run Tryz.prog w = .ok (.string ((s ++ { data := #[32] }) ++ itoaS v)) w := fun w => run_string_add_sum _ _ _ (by rw [ByteArray.size_append]; omega)
  have f3 : ∀ w, (Op.stringOp .add ((s ++ { data := #[32] }) ++ itoaS v) { data := #[10] }).run Tryz.prog w = .ok (.string (recS s v)) w := fun w => run_string_add_sum _ _ _ (by rw [ByteArray.size_append, ByteArray.size_append]; omega)
  have hrs : (recS s v).size ≤ 14 := recS_len hs3 v0 v1
  have hO2 : LgOK { recs := L.recs ++ [(s, v)], half := [], safe := L.safe, left := max (-1) (L.left - 1), st := false } := by
    have o0 := hO.left0
    have o1 := hO.left1
    have o2 := hO.safe1
    refine ⟨hO.recs.snoc hr, by simp; omega, by simp, by simp, fun _ => rfl, hO.safe0, ?_, by show -1 ≤ max (-1) (L.left - 1); omega, by show max (-1) (L.left - 1) ≤ 9223372036854775807; omega⟩
    show L.safe ≤ ((flatB (recsB (L.recs ++ [(s, v)]))).length : Int)
    have e : recsB (L.recs ++ [(s, v)]) = recsB L.recs ++ [recB (s, v)] := List.map_append
    rw [e, flatB_app, List.length_append]
    omega
  have f4 : ∀ w, (Op.stringOp .add (bytesB L.recs L.half) (recS s v)).run Tryz.prog w = .ok (.string (bytesB (L.recs ++ [(s, v)]) [])) w := fun w => by
    rw [← bytesB_snoc, hwh]
    exact run_string_add_sum _ _ _ (by rw [hwh] at hsz; omega)
  have hS := Lib.hid (fun (w : World) (hB : LogBox w g (b + 1) (bytesB L.recs L.half) L.recs.length L.safe L.left L.st) => logStep_any w g (b + 1) _ _ _ L.left L.st hO.left0 hO.left1 hB)
  have tl : (L.left == 0) = false := by simp [hl0]
  rw [tl] at hS
  have HO2 := Lib.hid hO2
  have HB := Lib.hid hB
  have HT := Lib.hid hT
  obtain ⟨X, hX⟩ : ∃ X, bytesB (L.recs ++ [(s, v)]) [] = X := ⟨_, rfl⟩
  have HX := Lib.hid hX
  rw [hX] at f4
  obtain ⟨R, hR⟩ : ∃ R, recS s v = R := ⟨_, rfl⟩
  rw [hR] at f3 f4
  have HRL : Hid (raiseL (raisedL L.recs) s v = raisedL (L.recs ++ [(s, v)])) := Lib.hid (by rw [raisedL_snoc])
  have HV := Lib.hid v0
  have HV1 := Lib.hid v1
  obtain ⟨M, hM⟩ : ∃ M : Int, max (-1) (L.left - 1) = M := ⟨_, rfl⟩
  rw [hM] at hS
  have HM := Lib.hid hM
  obtain ⟨C, hC5⟩ : ∃ C : Int, (L.recs.length : Int) = C := ⟨_, rfl⟩
  have HC5 := Lib.hid hC5
  have c0 : 0 ≤ C := by omega
  have c1 : C ≤ 30 := by omega
  obtain ⟨BS, hBS⟩ : ∃ BS, bytesB L.recs L.half = BS := ⟨_, rfl⟩
  rw [hC5] at hS HB cB t30
  rw [hBS] at hS HB cB f4
  clear hB hC hO hr h0 hwh hT hX hR hO2 hs1 hs2 hs3 hs4 v0 v1 hv4 e1 e2 hrs hl0 tl h30 hM hC5 hsz hmany hBS
  go_enter Tryz.func6, Tryz.ntmps6
  go_wp2_with fail
  refine HR.out.mono ?_
  rintro e w1 ⟨rfl, ⟨n1, hn1, hC1⟩, hk⟩
  have HC1 := Lib.hid hC1
  have hb1 := HB.out.but hk hg1
  have HB1 := Lib.hid hb1
  have cB := hb1.cell
  have lB := hb1.lt
  have hk1 : But (fun k => k = g ∨ k = b) w w1 := hk.mono (fun _ _ h => Or.inr h)
  have HT1 := Lib.hid (HT.out _ hk1).1
  rw [hst] at cB
  clear hb1 hC1
  go_wp2_with fail
  refine (itoa_any v _ HV.out HV1.out HT1.out).mono ?_
  rintro e w2 ⟨rfl, hb2⟩
  have hb3 := HB1.out.below hb2
  have HB2 := Lib.hid hb3
  have HC2 := Lib.hid (HC1.out.below hb2)
  have hk2 : But (fun k => k = g ∨ k = b) w w2 := hk1.trans (below_but hb2 _) (fun _ _ h => h)
  clear hb3 cB lB HT1 hb2
  go_wp2_with fail
  refine (hS.out _ HB2.out).mono ?_
  rintro e w3 ⟨rfl, hB3, hk3⟩
  have HB3 := Lib.hid hB3
  have HC3 := Lib.hid (HC2.out.but hk3 (fun e => hg1 e.symm) (fun e => hg2 e.symm))
  have cB := hB3.cell
  have lB := hB3.lt
  have fB := hB3.frozen
  clear hB3
  go_wp2_with fail
  have hkk : But (fun k => k = g) w3 ((w3.setCell ⟨g, 1, none⟩ (.string X)).setCell ⟨g, 2, none⟩ (.int .i64 (C + 1))) := ((But.refl (fun k => k = g) w3).setCell (p := ⟨g, 1, none⟩) (Or.inl rfl) _).setCell (p := ⟨g, 2, none⟩) (Or.inl rfl) _
  have HF := Lib.hid (HC3.out.but hkk (fun h => hg1 h.symm) (fun h => hg2 h.symm))
  have HG := Lib.hid (LogBox.rec_ HB3.out X (C + 1))
  have HK := Lib.hid (((hk2.trans (hk3.mono (S' := fun k => k = g ∨ k = b) (fun _ _ h => Or.inl h)) (fun _ _ h => h))).trans (hkk.mono (S' := fun k => k = g ∨ k = b) (fun _ _ h => Or.inl h)) (fun _ _ h => h))
  clear hkk hk2 hk3 hk1 hk
  go_ret2
  refine ⟨rfl, b, ⟨?_, ⟨n1, by omega, by rw [← HRL.out]; exact HF.out⟩, HO2.out, hg1, hg2⟩, Or.inl rfl, HK.out⟩
  have e5 : (((L.recs ++ [(s, v)]).length : Nat) : Int) = C + 1 := by rw [List.length_append, ← HC5.out]; rfl
  show LogBox _ g (b + 1) (bytesB (L.recs ++ [(s, v)]) []) ((L.recs ++ [(s, v)]).length : Int) L.safe (max (-1) (L.left - 1)) false
  rw [HX.out, e5, HM.out]
  exact HG.out

set_option maxHeartbeats 1000000 in
/-- It stops in the middle of a record. -/
theorem lgRaise_halts (w : World) (g b N : Nat) (L : Lg) (s : ByteArray) (v : Int) (h : LogIs w g b N L) (hst : L.st = false) (hs : s.size ≤ 140737488351232) (hN : N ≤ 900000) (hr : raiseB (raisedL L.recs) s v = true) (h30 : L.recs.length ≠ 30) (hl0 : L.left = 0) (hT : Held w g b) :
    Calls Tryz.prog 6 #[.pointer (some ⟨g, 0, none⟩), .string s, .int .i64 v] w (LgPost w g b N ((false, 6), { recs := L.recs, half := (recS s v).data.toList.take ((recS s v).size / 2), safe := L.safe, left := -1, st := true })) := by
  have en := fun k w => err_neq k w
  have gn := fun o k w => err_guard_neq o k w
  obtain ⟨hB, ⟨n, hn, hC⟩, hO, hg1, hg2⟩ := h
  have HR := Lib.hid (cRaise_any b n (raisedL L.recs) s v w hC hs (by omega) (raisedL_len _))
  obtain ⟨h0, hs1, hs2, hs3, hs4, v0, v1⟩ := raiseB_ok hr
  rw [hr, h0] at HR
  have hwh := hO.whole hst
  have hsz := bytesB_size hO
  have cB := hB.cell
  have lB := hB.lt
  rw [hst] at cB
  have hmany := hO.many
  have t30 : ¬ (L.recs.length : Int) = 30 := by omega
  have hv4 := itoa_len v0 v1
  have e1 : ({ data := #[32] } : ByteArray).size = 1 := rfl
  have e2 : ({ data := #[10] } : ByteArray).size = 1 := rfl
  have f1 : ∀ w, (Op.stringOp .add s { data := #[32] }).run Tryz.prog w = .ok (.string (s ++ { data := #[32] })) w := fun w => run_string_add_sum _ _ _ (by omega)
  have f2 : ∀ w, (Op.stringOp .add (s ++ { data := #[32] }) (itoaS v)).run Tryz.prog w = .ok (.string ((s ++ { data := #[32] }) ++ itoaS v)) w := fun w => run_string_add_sum _ _ _ (by rw [ByteArray.size_append]; omega)
  have f3 : ∀ w, (Op.stringOp .add ((s ++ { data := #[32] }) ++ itoaS v) { data := #[10] }).run Tryz.prog w = .ok (.string (recS s v)) w := fun w => run_string_add_sum _ _ _ (by rw [ByteArray.size_append, ByteArray.size_append]; omega)
  have hrs : (recS s v).size ≤ 14 := recS_len hs3 v0 v1
  have hO2 : LgOK { recs := L.recs, half := (recS s v).data.toList.take ((recS s v).size / 2), safe := L.safe, left := -1, st := true } := by
    refine ⟨hO.recs, hO.many, ?_, ?_, (fun h => by cases h), hO.safe0, hO.safe1, by show -1 ≤ (-1 : Int); omega, by show (-1 : Int) ≤ 9223372036854775807; omega⟩
    · show ((recS s v).data.toList.take ((recS s v).size / 2)).length ≤ 14
      rw [List.length_take]; omega
    · intro c hc
      obtain ⟨y, hy, hny⟩ := recS_line (v := v) hs4 v0
      have hyl : (recS s v).size = y.length + 1 := by rw [← size_list, hy]; simp
      have e : (recS s v).data.toList.take ((recS s v).size / 2) = y.take ((recS s v).size / 2) := by
        have hsz1 : s.size + 1 + (itoaS v).size + 1 = y.length + 1 := by rw [← recS_size]; exact hyl
        rw [hy, List.take_append_of_le_length (by omega)]
      have hc' : c ∈ (recS s v).data.toList.take ((recS s v).size / 2) := hc
      rw [e] at hc'
      exact hny c (List.mem_of_mem_take hc')
  have f5 : ∀ w, (Op.stringOp .add (bytesB L.recs L.half) ((recS s v).extract 0 ((recS s v).size / 2))).run Tryz.prog w = .ok (.string (bytesB L.recs ((recS s v).data.toList.take ((recS s v).size / 2)))) w := fun w => by
    have e : bytesB L.recs L.half ++ (recS s v).extract 0 ((recS s v).size / 2) = bytesB L.recs ((recS s v).data.toList.take ((recS s v).size / 2)) := by
      refine bytes_ext ?_
      have e3 : (bytesB L.recs L.half ++ (recS s v).extract 0 ((recS s v).size / 2)).data.toList = (bytesB L.recs L.half).data.toList ++ ((recS s v).extract 0 ((recS s v).size / 2)).data.toList := by simp
      rw [e3, bytesB_data, bytesB_data, Lib.extract_from_zero, hwh, List.append_nil]
    rw [← e]
    exact run_string_add_sum _ _ _ (by rw [ByteArray.size_extract]; omega)
  have hS := Lib.hid (fun (w : World) (hB : LogBox w g (b + 1) (bytesB L.recs L.half) L.recs.length L.safe L.left L.st) => logStep_any w g (b + 1) _ _ _ L.left L.st hO.left0 hO.left1 hB)
  rw [hl0] at hS
  have HBK := Lib.hid (fun (w : World) (hB : LogBox w g (b + 1) (bytesB L.recs L.half) L.recs.length L.safe (max (-1) (0 - 1)) (0 == 0)) (hM : MaxT w) => logBack_any w g (b + 1) (bytesB L.recs L.half) L.recs.length L.safe _ _ L.recs 6 hB (by rw [bytesB_data, hwh, List.append_nil]) hO.recs (by omega) (by omega) hM)
  have m1 : max (-1 : Int) (0 - 1) = -1 := by omega
  have m2 : ((0 : Int) == 0) = true := rfl
  try rw [m1] at hS
  try rw [m2] at hS
  try rw [m1] at HBK
  try rw [m2] at HBK
  clear m1 m2
  have HO2 := Lib.hid hO2
  have HO := Lib.hid hO
  have HB := Lib.hid hB
  have HT := Lib.hid hT
  obtain ⟨X, hX⟩ : ∃ X, bytesB L.recs ((recS s v).data.toList.take ((recS s v).size / 2)) = X := ⟨_, rfl⟩
  have HX := Lib.hid hX
  rw [hX] at f5
  obtain ⟨R, hR⟩ : ∃ R, recS s v = R := ⟨_, rfl⟩
  rw [hR] at f3 f5 hrs
  have HR0 := Lib.hid hR
  obtain ⟨C, hC5⟩ : ∃ C : Int, (L.recs.length : Int) = C := ⟨_, rfl⟩
  have HC5 := Lib.hid hC5
  have c0 : 0 ≤ C := by omega
  have c1 : C ≤ 30 := by omega
  obtain ⟨BS, hBS⟩ : ∃ BS, bytesB L.recs L.half = BS := ⟨_, rfl⟩
  rw [hl0] at HB
  rw [hC5] at hS HB cB t30 HBK
  rw [hBS] at hS HB cB f5 HBK
  have HV := Lib.hid v0
  have HV1 := Lib.hid v1
  clear hB hC hO hr h0 hwh hT hX hR hO2 hs1 hs2 hs3 hs4 v0 v1 hv4 e1 e2 hl0 h30 hC5 hsz hmany hBS
  go_enter Tryz.func6, Tryz.ntmps6
  go_wp2_with fail
  refine HR.out.mono ?_
  rintro e w1 ⟨rfl, ⟨n1, hn1, hC1⟩, hk⟩
  have hb1 := HB.out.but hk hg1
  have HB1 := Lib.hid hb1
  have cB := hb1.cell
  have lB := hb1.lt
  have hk1 : But (fun k => k = g ∨ k = b) w w1 := hk.mono (fun _ _ h => Or.inr h)
  have HT1 := Lib.hid (HT.out _ hk1).1
  rw [hst] at cB
  clear hb1 hC1
  go_wp2_with fail
  refine (itoa_any v _ HV.out HV1.out HT1.out).mono ?_
  rintro e w2 ⟨rfl, hb2⟩
  have HB2 := Lib.hid (HB1.out.below hb2)
  have hk2 : But (fun k => k = g ∨ k = b) w w2 := hk1.trans (below_but hb2 _) (fun _ _ h => h)
  clear cB lB HT1 hb2
  go_wp2_with fail
  refine (hS.out _ HB2.out).mono ?_
  rintro e w3 ⟨rfl, hB3, hk3⟩
  have HB3 := Lib.hid hB3
  have hk3' : But (fun k => k = g ∨ k = b) w w3 := hk2.trans (hk3.mono (S' := fun k => k = g ∨ k = b) (fun _ _ h => Or.inl h)) (fun _ _ h => h)
  have HM := Lib.hid (HT.out _ hk3').2
  clear hB3
  go_wp2_with fail
  refine (HBK.out _ HB3.out HM.out).mono ?_
  rintro e w4 ⟨rfl, b4, n4, hB4, hC4, hn4, hb4, hk4⟩
  have HB4 := Lib.hid hB4
  have HC4 := Lib.hid hC4
  have cB := hB4.cell
  have lB := hB4.lt
  have fB := hB4.frozen
  have hz3 := hk3'.size
  have hgw : g < w.heap.size := HB.out.lt
  have hgb : g ≠ b4 ∧ g ≠ b4 + 1 := by constructor <;> omega
  clear hB4 hC4
  go_wp2_with fail
  go_region
  all_goals go_wp2_with fail
  have hs5 : But (fun k => k = g) w4 (w4.setCell ⟨g, 1, none⟩ (.string X)).drew := ((But.refl (fun k => k = g) w4).setCell (p := ⟨g, 1, none⟩) (Or.inl rfl) _).drew
  have hx5 := Lib.hid (show LogBox (w4.setCell ⟨g, 1, none⟩ (.string X)).drew g (b4 + 1) X C L.safe (-1) true from Box.drew_ (HB4.out.set_ 1 (.string X)))
  have HC6 := Lib.hid (HC4.out.but hs5 (fun e => hgb.1 e.symm) (fun e => hgb.2 e.symm))
  have HK := Lib.hid ((hk3'.trans (hk4.mono (S' := fun k => k = g ∨ k = b) (fun _ _ h => Or.inl h)) (fun _ _ h => h)).trans (hs5.mono (S' := fun k => k = g ∨ k = b) (fun _ _ h => Or.inl h)) (fun _ _ h => h))
  have HN4 := Lib.hid hn4
  have hle : w.heap.size ≤ b4 := by omega
  clear hs5 hk3 hk3' hk4 hk2 hk1 hk
  go_ret2
  refine ⟨rfl, b4, ⟨?_, ⟨n4, by have := HO.out.many; have := HN4.out; omega, HC6.out⟩, HO2.out, hgb.1, hgb.2⟩, Or.inr hle, HK.out⟩
  show LogBox _ g (b4 + 1) (bytesB L.recs _) (L.recs.length : Int) L.safe (-1) true
  rw [HX.out, HC5.out]
  exact hx5.out

/-- Raise, however it ends. -/
theorem lgRaise_any (w : World) (g b N : Nat) (L : Lg) (s : ByteArray) (v : Int) (h : LogIs w g b N L) (hs : s.size ≤ 140737488351232) (hN : N ≤ 900000) (hT : Held w g b) :
    Calls Tryz.prog 6 #[.pointer (some ⟨g, 0, none⟩), .string s, .int .i64 v] w (LgPost w g b N (raiseOut L s v)) := by
  unfold raiseOut
  cases hst : L.st
  · rw [if_neg (by decide)]
    cases hr : raiseB (raisedL L.recs) s v
    · rw [if_neg (by decide)]
      exact lgRaise_no w g b N L s v h hst hs hN hr
    · rw [if_pos rfl]
      by_cases h30 : L.recs.length = 30
      · rw [if_pos h30]
        exact lgRaise_full w g b N L s v h hst hs hN hr h30 hT
      · rw [if_neg h30]
        by_cases hl : L.left = 0
        · rw [if_pos hl]
          exact lgRaise_halts w g b N L s v h hst hs hN hr h30 hl hT
        · rw [if_neg hl]
          exact lgRaise_ok w g b N L s v h hst hs hN hr h30 hl hT
  · rw [if_pos rfl]
    exact lgRaise_stopped w g b N L s v h hst

end Go.Proofs.YtkipjloapdolbaaGreatDoor
