/- How long the answers of a session are. -/
import Derived.Test.YtegiffdlfpdbkaaGreatDoorRows
import Derived.Test.YtegiffdlfpdbkaaGreatDoorNum
import Derived.Test.YtegiffdlfpdbkaaGreatDoorBase
import Derived.Test.YtegiffdlfpdbkaaGreatDoorCntP
import Derived.Test.YtegiffdlfpdbkaaGreatDoorRefL
import Derived.Test.YtegiffdlfpdbkaaGreatDoorParse
import Derived.Test.YtegiffdlfpdbkaaGreatDoorRunP
import Derived.Test.YtegiffdlfpdbkaaGreatDoorRunL
import Derived.Test.YtegiffdlfpdbkaaGreatDoorRun2
import Derived.Test.YtegiffdlfpdbkaaGreatDoorRunS
namespace Go.Proofs.YtegiffdlfpdbkaaGreatDoor
open Go.RowKit
set_option maxRecDepth 100000
set_option linter.unusedVariables false
set_option linter.unusedSimpArgs false

theorem errN_size (e : Int) : (errN e).size ≤ 9 := by
  unfold errN
  (repeat' split) <;> decide
theorem sayI_size {n e : Int} (h0 : 0 ≤ n) (h1 : n ≤ 99999999) : (sayI n e).size ≤ 24 := by
  unfold sayI
  split
  · have := itoa_len8 h0 h1; omega
  · have := errN_size e; omega
theorem sayB_size (b : Bool) (e : Int) : (sayB b e).size ≤ 24 := by
  unfold sayB
  split
  · cases b <;> decide
  · have := errN_size e; omega
theorem ofM_bd (l : List UInt8) : 0 ≤ ofM l ∧ ofM l ≤ 1000002 := by
  unfold ofM
  split
  · omega
  · exact okM_yes (textM_ok _)
theorem digM_bd (b : List Int) (m : Int) : 0 ≤ digM b m ∧ digM b m ≤ 1000002 := by
  unfold digM
  split
  · unfold isM; exact okM_yes (rowM_ok _)
  · omega
theorem pubM_bd (x : Int) : 0 ≤ pubM x ∧ pubM x ≤ 1542 := by
  unfold pubM
  split
  · exact pwI_bd _ _
  · omega
theorem extB_at {b : List Int} {i m : Int} (hl : b.length = 8) (hb : b.all okM = true) (h : extE b i m = 0) (k : Nat) : 0 ≤ (extB b i m).getD k 0 ∧ (extB b i m).getD k 0 ≤ 1000002 := by
  obtain ⟨h1, h2⟩ := extB_ok hl hb h
  by_cases hk : k < (extB b i m).length
  · exact okM_yes (List.all_eq_true.1 h2 _ (getD_mem _ _ _ hk))
  · rw [List.getD_eq_getElem?_getD, List.getElem?_eq_none (by omega)]; simp
theorem lineR_size {d : Dsk} (h : DskOK d) (ws : List ByteArray) : (lineR d ws).1.size ≤ 24 := by
  have named : ∀ w nm ns, (namedR d w nm ns).1.size ≤ 24 := fun w nm ns => by
    unfold namedR
    split
    · exact sayB_size _ _
    · split
      · show (if _ = 0 then tOk else errN _).size ≤ 24
        split
        · decide
        · have := errN_size (mayL d.cnt nm (ns.getD 0 0)); omega
      · have := ofM_bd nm.data.toList
        exact sayI_size (by omega) (by omega)
  have plain : ∀ w ns, (plainR d w ns).1.size ≤ 24 := fun w ns => by
    unfold plainR
    split
    · split
      · rename_i he
        have h1 := extB_at h.len h.ok he (ns.getD 0 0).toNat
        have h2 := itoa_len8 h1.1 (by omega)
        show (itoaS _).size ≤ 24
        omega
      · have := errN_size (extE d.bank (ns.getD 0 0) (ns.getD 1 0))
        show (errN _).size ≤ 24
        omega
    · split
      · have := digM_bd d.bank (ns.getD 0 0)
        exact sayI_size (by omega) (by omega)
      · split
        · have := pubM_bd (ns.getD 0 0)
          exact sayI_size (by omega) (by omega)
        · split
          · split
            · obtain ⟨p1, p2, a1, a2⟩ := sg_bd (ns.getD 0 0) (ns.getD 1 0) (ns.getD 2 0)
              have z1 := itoa_len8 p1 (by omega)
              have z2 := itoa_len8 a1 (by omega)
              have z3 : (tSp : ByteArray).size = 1 := rfl
              show (itoaS _ ++ tSp ++ itoaS _).size ≤ 24
              rw [ByteArray.size_append, ByteArray.size_append]
              omega
            · have := errN_size (sgE (ns.getD 0 0) (ns.getD 1 0) (ns.getD 2 0))
              show (errN _).size ≤ 24
              omega
          · exact sayB_size _ _
  have bad : (tBad : ByteArray).size ≤ 24 := by decide
  unfold lineR
  split
  · split
    · split
      · split
        · exact bad
        · exact named _ _ _
      · exact bad
    · split
      · exact plain _ _
      · exact bad
  · exact bad
theorem fold_size : ∀ (ls : List ByteArray) (p : Dsk × ByteArray), DskOK p.1 → (ls.foldl stepR p).2.size ≤ p.2.size + 25 * ls.length
  | [], p, h => by simp
  | s :: r, p, h => by
    rw [List.foldl_cons]
    have h1 := fold_size r (stepR p s) (lineR_ok h _)
    have h2 : (stepR p s).2.size ≤ p.2.size + 25 := by
      show (p.2 ++ ((lineR p.1 (wordsB s)).1 ++ tNl)).size ≤ _
      rw [ByteArray.size_append, ByteArray.size_append]
      have h3 := lineR_size h (wordsB s)
      have h4 : (tNl : ByteArray).size = 1 := rfl
      omega
    rw [List.length_cons]
    omega
theorem runF_size (ls : List ByteArray) : (runF ls).2.size ≤ 25 * ls.length := by
  have := fold_size ls (dsk0, tNil) dsk0_ok
  have h0 : (tNil : ByteArray).size = 0 := rfl
  unfold runF
  simp only [h0] at this
  omega
theorem runF_ne (ls : List ByteArray) (s : ByteArray) : (runF (ls ++ [s])).2.data.toList ≠ [] := by
  rw [runF_snoc]
  show ((runF ls).2 ++ ((lineR (runF ls).1 (wordsB s)).1 ++ tNl)).data.toList ≠ []
  simp

end Go.Proofs.YtegiffdlfpdbkaaGreatDoor
