/- The reference's nonces: Use. -/
import Derived.Test.YtdedllfgeekogaaDoorRows
import Derived.Test.YtdedllfgeekogaaDoorNum
import Derived.Test.YtdedllfgeekogaaDoorBase
import Derived.Test.YtdedllfgeekogaaDoorMeas
import Derived.Test.YtdedllfgeekogaaDoorBank
import Derived.Test.YtdedllfgeekogaaDoorApp
import Derived.Test.YtdedllfgeekogaaDoorFoot
import Derived.Test.YtdedllfgeekogaaDoorNon2
import Derived.Test.YtdedllfgeekogaaDoorNon3
import Derived.WalkKit
import Derived.WalkSpells
import Derived.Lib.Hide
import Derived.OwnWalk
namespace Go.Proofs.YtdedllfgeekogaaDoor
open Go.RowKit
set_option maxRecDepth 100000

theorem app_but2 {ops : Array Oper} {rest : List Oper} {o : Oper} {a : Act} {Q : Exit → Act → World → Prop} {w : World} (hgd : o.guard = none) (s x : Operand)
    (ho : o.op = .call { callee := .builtin .append, args := #[s, x], argTypes := #[43, 43] })
    (A : Option Addr) (c n : Nat) (xs : List Int) (hs : a.eval s = .slice A n c) (hn : xs.length = n) (hown : OwnI w 0 A c xs) (b : Nat) (hb : ∀ a, A = some a → a.block = b)
    (B : Option Addr) (d m : Nat) (ys : List Int) (hx : a.eval x = .slice B m d) (hm : ys.length = m) (hB : IntsAt w B ys)
    (hlen : (xs.length + ys.length) * 8 ≤ 140737488355328)
    (h : ∀ A' c' b' k w', Hid (k = n + m) → OwnI w' 0 A' c' (xs ++ ys) → (b' = b ∨ b' = w.heap.size) → (∀ a, A' = some a → a.block = b' ∧ (b' = b → b < w.heap.size → A ≠ none)) → But (fun k => A ≠ none ∧ k = b) w w' → wpList Tryd.prog ops Q rest (a.put o.dst (.slice A' k c')) w') : wpList Tryd.prog ops Q (o :: rest) a w := by
  subst hn
  subst hm
  refine app_but hgd s x ho A c xs hs hown b hb B d ys hx hB hlen ?_
  intro A' c' b' zs w' hz h2 h3 h4 h5
  have hz' : zs = xs ++ ys := hz
  subst hz'
  rw [List.length_append]
  exact h A' c' b' _ w' rfl h2 h3 h4 h5

theorem museEnd {T : TypeId} {w w1 w2 : World} {g b b1 b2 ma n : Nat} {la : Int} {A1 A2 : Option Addr} {c2 : Nat} {ys : List Int} {z : Value} (hgl : g < w.heap.size) (G : Box w g T #[.int .i64 la, .int .i64 ma, z])
    (e1 : b1 = g ∨ b1 = w.heap.size) (t1 : ∀ a, A1 = some a → a.block = b1 ∧ (b1 = g → g < w.heap.size → (none : Option Addr) ≠ none)) (k1 : But (fun k => (none : Option Addr) ≠ none ∧ k = g) w w1)
    (o2 : OwnI w2 0 A2 c2 ys) (e2 : b2 = b1 ∨ b2 = w1.heap.size) (t2 : ∀ a, A2 = some a → a.block = b2 ∧ (b2 = b1 → b1 < w1.heap.size → A1 ≠ none)) (k2 : But (fun k => A1 ≠ none ∧ k = b1) w1 w2) (hn : n = ys.length) :
    ∃ b', NonceIs (w2.setCell ⟨g, 2, none⟩ (.slice A2 n c2)) T g b' la ma A2 c2 ys ∧ (b' = g ∨ w.heap.size ≤ b') ∧ But (Foot g b) w (w2.setCell ⟨g, 2, none⟩ (.slice A2 n c2)) := by
  subst hn
  have f1 : ∀ a, A1 = some a → w.heap.size ≤ a.block := fun a ha => by
    obtain ⟨h, h'⟩ := t1 a ha
    rcases e1 with e | e
    · exact absurd rfl (h' e hgl)
    · omega
  have hb1 : ∀ k, (A1 ≠ none ∧ k = b1) → w.heap.size ≤ k := fun k hk => by
    rcases A1 with _ | a
    · exact absurd rfl hk.1
    · have := f1 a rfl
      have := (t1 a rfl).1
      omega
  have B1 : Below w.heap.size w w1 := k1.below (Nat.le_refl _) (fun k hk => absurd rfl hk.1)
  have B2 : Below w.heap.size w1 w2 := k2.below k1.size hb1
  have B := B1.trans B2
  have f2 : ∀ a, A2 = some a → w.heap.size ≤ a.block := fun a ha => by
    obtain ⟨h, h'⟩ := t2 a ha
    rcases e2 with e | e
    · rcases e1 with e' | e'
      · have := h' e (by have := k1.size; omega)
        rcases A1 with _ | a1
        · exact absurd rfl this
        · have := f1 a1 rfl
          have := (t1 a1 rfl).1
          omega
      · omega
    · have := k1.size; omega
  have G2 := G.below B
  have hbut : But (Foot g b) w (w2.setCell ⟨g, 2, none⟩ (.slice A2 ys.length c2)) := (below_but B _).setCell (Or.inl (Or.inl rfl)) _
  rcases A2 with _ | a
  · exact ⟨g, ⟨fset2 G2 _, own_set o2 (fun a ha => by cases ha) 2 _, fun a ha => (by cases ha), (fset2 G2 _).lt⟩, Or.inl rfl, hbut⟩
  · have hl := own_lt o2 a rfl
    refine ⟨a.block, ⟨fset2 G2 _, own_set o2 (fun a' ha => by cases ha; have := f2 a rfl; omega) 2 _, fun a' ha => ?_, by simpa [World.setCell] using hl⟩, Or.inr (f2 a rfl), hbut⟩
    cases ha
    exact ⟨rfl, by have := f2 a rfl; omega⟩

theorem mfirst {w w1 w2 : World} {g b1 : Nat} {A1 : Option Addr} (e1 : b1 = g ∨ b1 = w.heap.size) (t1 : ∀ a, A1 = some a → a.block = b1 ∧ (b1 = g → g < w.heap.size → (none : Option Addr) ≠ none)) (k1 : But (fun k => (none : Option Addr) ≠ none ∧ k = g) w w1) (hgl : g < w.heap.size) (k2 : But (fun k => A1 ≠ none ∧ k = b1) w1 w2) :
    Below w.heap.size w1 w2 := k2.below k1.size (fun k hk => by
  rcases A1 with _ | a
  · exact absurd rfl hk.1
  · obtain ⟨h, h'⟩ := t1 a rfl
    rcases e1 with e | e
    · exact absurd rfl (h' e hgl)
    · omega)

set_option maxHeartbeats 2000000 in
theorem mUse_any (g b : Nat) (la : Int) (ma : Nat) (A : Option Addr) (c : Nat) (xs : List Int) (x : Int) (w : World) (hN : NonceIs w 78 g b la ma A c xs) (hl : xs.length ≤ 1000) :
    Calls Tryd.prog 27 #[.pointer (some ⟨g, 0, none⟩), .int .i64 x] w fun e w' =>
      (e = .returned (.int .i64 0) ∧ hasI xs x = true ∧ ∃ A' c' b', NonceIs w' 78 g b' la ma A' c' (xs.erase x) ∧ (b' = g ∨ w.heap.size ≤ b') ∧ But (Foot g b) w w') ∨
      (e = .returned (.int .i64 5) ∧ hasI xs x = false ∧ w = w') := by
  have hB := hN.box
  have hgl := hB.lt
  have cB := hB.cell
  have lB := hB.lt
  have fB := hB.frozen
  have HI := Lib.hid hN.own.ints
  have HO := Lib.hid hN.own
  clear hN
  go_enter Tryd.func27, Tryd.ntmps27
  go_wp2
  go_loop [5] (fun i => ∃ k : Nat, k ≤ xs.length ∧ i = .int .i64 k ∧ Hid ((xs.take k).any (fun y => x == y) = false)) (fun i => xs.length - (intOf i).toNat)
  case atStart => exact ⟨0, Nat.zero_le _, rfl, Lib.hid (by simp)⟩
  case round =>
    obtain ⟨k, hk, rfl, HP⟩ := hrel
    by_cases hlt : k < xs.length
    · obtain ⟨g', cur, rfl, hC, h1, h2, h3, _⟩ := own_form HO.out (by omega)
      have HC := Lib.hid hC
      clear hC h3
      obtain ⟨b0, off, e0, _, hc⟩ := HI.out k hlt
      injection e0 with e0
      injection e0 with e1 e2
      subst e1; subst e2
      obtain ⟨y, hye⟩ : ∃ y, xs.getD k 0 = y := ⟨_, rfl⟩
      rw [hye, Nat.zero_add] at hc
      have HV := Lib.hid hye
      clear hye
      cases hp : x == y
      · have HQ := Lib.hid (any_take_step (pr := fun y => x == y) k hlt HP.out (HV.out ▸ hp))
        have hp' : (y == x) = false := by rw [Bool.beq_comm] at hp; exact hp
        clear hp
        go_wp2
        go_round
        case rel => exact ⟨k + 1, by omega, by go_num, HQ⟩
        case measure => simp [intOf]; omega
      · have HQ : Hid (hasI xs x = true) := Lib.hid (any_at (pr := fun y => x == y) k hlt (HV.out ▸ hp))
        have HE := Lib.hid (erase_at xs x k hlt (by rw [HV.out]; exact (by simpa using hp : x = y).symm) HP.out)
        have hp' : (y == x) = true := by rw [Bool.beq_comm] at hp; exact hp
        clear hp
        have HTK : Hid ((xs.take k).length = k) := Lib.hid (by rw [List.length_take]; omega)
        have HT : Hid (IntsAt w (some ⟨g', 0, none⟩) (xs.take k)) := Lib.hid (HI.out.take_ k)
        have HDK : Hid ((xs.drop (k + 1)).length = xs.length - (k + 1)) := Lib.hid (by rw [List.length_drop])
        have HZ : Hid (∀ k1, Hid (k1 = 0 + k) → ([] ++ xs.take k).length = k1) := Lib.hid (fun k1 h => by have := h.out; simp; omega)
        by_cases hck : c = k + 1
        · subst hck
          have HDK : Hid ((xs.drop (k + 1)).length = 0) := Lib.hid (by rw [List.length_drop]; omega)
          have HD : Hid (∀ w1, Below w.heap.size w w1 → IntsAt w1 (some ⟨g', 0, none⟩) (xs.drop (k + 1))) := Lib.hid (fun w1 _ => by rw [List.drop_of_length_le (by omega)]; exact IntsAt.nil_ _ _)
          go_wp2_with (first | (at_builtin; refine app_but2 rfl (.tmp 25) (.tmp 31) rfl none 0 0 [] rfl rfl (OwnI.start _ _) g (fun a ha => by cases ha) _ _ _ (xs.take k) rfl HTK.out HT.out (by simp; omega) ?_; intro A1 c1 b1 k1 w1 hz1 o1 e1 t1 kk1; have Bw : Below w.heap.size w w1 := kk1.below (Nat.le_refl _) (fun k hk => absurd rfl hk.1); have G1 := hB.below Bw; have cG1 := G1.cell; have lG1 := G1.lt; have fG1 := G1.frozen; have hz1' : ([] ++ xs.take k).length = k1 := HZ.out _ hz1) | (at_builtin; refine app_but2 rfl (.tmp 34) (.tmp 41) rfl A1 c1 k1 ([] ++ xs.take k) rfl hz1' o1 b1 (fun a ha => (t1 a ha).1) _ _ _ (xs.drop (k + 1)) rfl HDK.out (HD.out _ Bw) (by simp; omega) ?_; intro A2 c2 b2 k2 w2 hz2 o2 e2 t2 kk2; have hw2 : Below w.heap.size w w2 := Bw.trans (mfirst e1 t1 kk1 hgl kk2); have G2 := hB.below hw2; have cG2 := G2.cell; have lG2 := G2.lt; have fG2 := G2.frozen))
          have HF := fun n hn => Lib.hid (museEnd (T := 78) (b := b) (n := n) hgl hB e1 t1 kk1 o2 e2 t2 kk2 hn)
          have hk2 := hz2.out
          have hk1 := hz1.out
          have HK2 : Hid (k2 = ([] ++ xs.take k ++ xs.drop (k + 1)).length) := Lib.hid (by rw [hk2, hk1]; simp; omega)
          clear hk2 hk1 o2 e2 t2 kk2
          go_ret
          obtain ⟨b', hF⟩ := (HF _ HK2.out).out
          rw [List.nil_append, ← HE.out] at hF
          exact Or.inl ⟨rfl, HQ.out, _, _, b', hF⟩
        · have HD : Hid (∀ w1, Below w.heap.size w w1 → IntsAt w1 (some ⟨g', k + 1, none⟩) (xs.drop (k + 1))) := Lib.hid (fun w1 h => by have := (HI.out.below h).drop_ (k + 1); rwa [Nat.zero_add] at this)
          go_wp2_with (first | (at_builtin; refine app_but2 rfl (.tmp 25) (.tmp 31) rfl none 0 0 [] rfl rfl (OwnI.start _ _) g (fun a ha => by cases ha) _ _ _ (xs.take k) rfl HTK.out HT.out (by simp; omega) ?_; intro A1 c1 b1 k1 w1 hz1 o1 e1 t1 kk1; have Bw : Below w.heap.size w w1 := kk1.below (Nat.le_refl _) (fun k hk => absurd rfl hk.1); have G1 := hB.below Bw; have cG1 := G1.cell; have lG1 := G1.lt; have fG1 := G1.frozen; have hz1' : ([] ++ xs.take k).length = k1 := HZ.out _ hz1) | (at_builtin; refine app_but2 rfl (.tmp 34) (.tmp 41) rfl A1 c1 k1 ([] ++ xs.take k) rfl hz1' o1 b1 (fun a ha => (t1 a ha).1) _ _ _ (xs.drop (k + 1)) rfl HDK.out (HD.out _ Bw) (by simp; omega) ?_; intro A2 c2 b2 k2 w2 hz2 o2 e2 t2 kk2; have hw2 : Below w.heap.size w w2 := Bw.trans (mfirst e1 t1 kk1 hgl kk2); have G2 := hB.below hw2; have cG2 := G2.cell; have lG2 := G2.lt; have fG2 := G2.frozen))
          have HF := fun n hn => Lib.hid (museEnd (T := 78) (b := b) (n := n) hgl hB e1 t1 kk1 o2 e2 t2 kk2 hn)
          have hk2 := hz2.out
          have hk1 := hz1.out
          have HK2 : Hid (k2 = ([] ++ xs.take k ++ xs.drop (k + 1)).length) := Lib.hid (by rw [hk2, hk1]; simp; omega)
          clear hk2 hk1 o2 e2 t2 kk2
          go_ret
          obtain ⟨b', hF⟩ := (HF _ HK2.out).out
          rw [List.nil_append, ← HE.out] at hF
          exact Or.inl ⟨rfl, HQ.out, _, _, b', hF⟩
    · have HQ : Hid (hasI xs x = false) := Lib.hid (by have := HP.out; rwa [List.take_of_length_le (by omega)] at this)
      go_wp2
      go_ret
      exact Or.inr ⟨rfl, HQ.out, rfl⟩

end Go.Proofs.YtdedllfgeekogaaDoor
