/- count.Counts over a list of names, and numbers: Raise, Least, May said in one, as the reference's. -/
import Derived.Test.YtegiffdlfpdbkaaGreatDoorRows
import Derived.Test.YtegiffdlfpdbkaaGreatDoorNum
import Derived.Test.YtegiffdlfpdbkaaGreatDoorBase
import Derived.Test.YtegiffdlfpdbkaaGreatDoorFoot
import Derived.Test.YtegiffdlfpdbkaaGreatDoorImg
import Derived.Test.YtegiffdlfpdbkaaGreatDoorCount
import Derived.Test.YtegiffdlfpdbkaaGreatDoorCntP
import Derived.WalkKit
import Derived.WalkSpells
import Derived.Lib.Hide
namespace Go.Proofs.YtegiffdlfpdbkaaGreatDoor
open Go.RowKit
set_option maxRecDepth 100000
set_option linter.unusedVariables false

def CE (w : World) (b n : Nat) (ls : List Cnt) : Prop := CountE w b n (hasL ls) (ofL ls) ls.length
theorem CE.but {S : Nat → Prop} {w w' : World} {b n : Nat} {ls : List Cnt} (c : CE w b n ls) (hb : But S w w') (s0 : ¬ S b) (s1 : ¬ S (b + 1)) : CE w' b n ls := CountE.but c hb s0 s1
theorem CE.below {w w' : World} {b n : Nat} {ls : List Cnt} (c : CE w b n ls) (hb : Below w.heap.size w w') : CE w' b n ls := CountE.below c hb
theorem raiseE_bd (ls : List Cnt) (s : ByteArray) (x : Int) : I64 (raiseE ls s x) := by
  unfold raiseE
  repeat (first | (exact ⟨by decide, by decide⟩) | split)
theorem mayL_bd (ls : List Cnt) (s : ByteArray) (x : Int) : I64 (mayL ls s x) := by
  unfold mayL
  repeat (first | (exact ⟨by decide, by decide⟩) | split)

theorem cRaise_any (b n : Nat) (ls : List Cnt) (s : ByteArray) (x : Int) (w : World) (h : CE w b n ls) (hz : s.size ≤ 140737488351232) (hn : n ≤ 1000000) (hl : ls.length ≤ 12) :
    Calls Tryz.prog 66 #[.pointer (some ⟨b + 1, 0, none⟩), .string s, .int .i64 x] w fun e w' => e = .returned (.tuple #[.bool (raiseB ls s x), errV (raiseE ls s x)]) ∧ (∃ n', n' ≤ n + 1 ∧ CE w' b n' (raiseL ls s x)) ∧ But (fun k => k = b) w w' := by
  have same : ∀ (B : Bool) (E : Int), raiseB ls s x = B → raiseE ls s x = E → raiseL ls s x = ls →
      (Calls Tryz.prog 66 #[.pointer (some ⟨b + 1, 0, none⟩), .string s, .int .i64 x] w fun e w' => e = .returned (.tuple #[.bool B, errV E]) ∧ Below w.heap.size w w') →
      (Calls Tryz.prog 66 #[.pointer (some ⟨b + 1, 0, none⟩), .string s, .int .i64 x] w fun e w' => e = .returned (.tuple #[.bool (raiseB ls s x), errV (raiseE ls s x)]) ∧ (∃ n', n' ≤ n + 1 ∧ CE w' b n' (raiseL ls s x)) ∧ But (fun k => k = b) w w') := fun B E h1 h2 h3 hc => by
    rw [h1, h2, h3]
    exact hc.mono fun e w' k => ⟨k.1, ⟨n, by omega, h.below k.2⟩, below_but k.2 _⟩
  cases hs : okName s
  · exact same false 3 (by unfold raiseB; rw [hs]; rfl) (by unfold raiseE; rw [hs]; rfl) (by unfold raiseL; rw [hs]; rfl) (raise_bad b (b + 1) n _ _ _ s x w h.is hs hz)
  · by_cases hx : x < 0 ∨ 1000 < x
    · exact same false 1 (by unfold raiseB; simp [hs, hx]) (by unfold raiseE; simp [hs, hx]) (by unfold raiseL; simp [hs, hx]) (raise_far b (b + 1) n _ _ _ s x w h.is hs hx)
    · have x0 : 0 ≤ x := by omega
      have x1 : x ≤ 1000 := by omega
      by_cases h3 : x ≤ ofL ls s.data.toList
      · exact same false 0 (by unfold raiseB; simp [hs, hx, h3]) (by unfold raiseE; simp [hs, hx, h3]) (by unfold raiseL; simp [hs, hx, h3]) (raise_low b (b + 1) n _ _ _ s x w h.is hs x0 x1 h3)
      · have h4 : ofL ls s.data.toList < x := by omega
        cases hh : hasL ls s.data.toList
        · by_cases h12 : ls.length < 12
          · rw [show raiseB ls s x = true by unfold raiseB; simp [hs, hx, h3, hh, h12], show raiseE ls s x = 0 by unfold raiseE; simp [hs, hx, h3, hh, h12], show raiseL ls s x = ls ++ [(s, x)] by unfold raiseL; simp [hs, hx, h3, hh, h12]]
            refine (raiseE_new b n _ _ _ s x w h hs x0 x1 h4 hh h12 hn).mono fun e w' k => ⟨k.1, ⟨n + 1, by omega, ?_⟩, k.2.2⟩
            unfold CE
            rw [hasL_app, ofL_app ls s x hh, List.length_append]
            exact k.2.1
          · have e12 : ls.length = 12 := by omega
            have hC : CountIs b w (b + 1) n (hasL ls) (ofL ls) 12 := by have := h.is; rw [e12] at this; exact this
            exact same false 4 (by unfold raiseB; simp [hs, hx, h3, hh, h12]) (by unfold raiseE; simp [hs, hx, h3, hh, h12]) (by unfold raiseL; simp [hs, hx, h3, hh, h12]) (raise_full b (b + 1) n _ _ s x w hC hs x0 x1 h4 hh)
        · rw [show raiseB ls s x = true by unfold raiseB; simp [hs, hx, h3, hh], show raiseE ls s x = 0 by unfold raiseE; simp [hs, hx, h3, hh], show raiseL ls s x = setL ls s.data.toList x by unfold raiseL; simp [hs, hx, h3, hh]]
          refine (raiseE_old b n _ _ _ s x w h hs x0 x1 h4 hh hn).mono fun e w' k => ⟨k.1, ⟨n + 1, by omega, ?_⟩, k.2.2⟩
          unfold CE
          rw [hasL_set ls _ x hh, ofL_set ls _ x hh, setL_len]
          exact k.2.1

theorem cMay_any (b n : Nat) (ls : List Cnt) (s : ByteArray) (x : Int) (w : World) (h : CE w b n ls) (hz : s.size ≤ 140737488351232) :
    Calls Tryz.prog 67 #[.pointer (some ⟨b + 1, 0, none⟩), .string s, .int .i64 x] w fun e w' => e = .returned (errV (mayL ls s x)) ∧ Below w.heap.size w w' := by
  unfold mayL
  cases hs : okName s
  · exact may_bad _ s x w hs hz
  · exact may_any b (b + 1) n _ _ _ s x w h.is hs

end Go.Proofs.YtegiffdlfpdbkaaGreatDoor
