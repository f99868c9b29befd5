/- MeasureGoes: one more is one step more. -/
import Derived.Test.YtfklbifgjpocnaaRows
import Derived.Test.YtfklbifgjpocnaaOpen
import Derived.Test.YtfklbifgjpocnaaMeas
import Derived.Test.YtfklbifgjpocnaaApp
import Derived.WalkKit
import Derived.Lib.Hide
namespace Go.Proofs.Ytfklbifgjpocnaa
open Go.ChangeShapes Go.WideShapes Go.ChangeAt Go.RowKit
set_option linter.unusedVariables false

theorem allE_ok {l : List Int} (h : allE l = 0) : l.all okM = true := by
  unfold allE at h
  by_cases h1 : 30 < l.length
  · simp [h1] at h
  · cases h2 : l.all okM
    · simp [h1, h2] at h
    · rfl
theorem allM_of {l : List Int} (h : allE l = 0) : allM l = rowM l := by simp [allM, h]

/-- The ways through the first part. -/
theorem goes_ways (l : List Int) (a b : Int) :
    ((allE l == 0) = false) ∨
    (allE l = 0 ∧ twoE (allM l) a = 0 ∧ twoE (allM l) b = 0 ∧ ((twoM (allM l) a == twoM (allM l) b) = (a == b)) ∧ allE (l ++ [a]) = 0 ∧ (allM (l ++ [a]) != twoM (allM l) a) = false) ∨
    (allE l = 0 ∧ twoE (allM l) a = 0 ∧ twoE (allM l) b = 0 ∧ ((twoM (allM l) a == twoM (allM l) b) = (a == b)) ∧ (allE (l ++ [a]) == 0) = false) ∨
    (allE l = 0 ∧ twoE (allM l) a = 0 ∧ twoE (allM l) b = 1 ∧ allE (l ++ [a]) = 0 ∧ (allM (l ++ [a]) != twoM (allM l) a) = false) ∨
    (allE l = 0 ∧ twoE (allM l) a = 0 ∧ twoE (allM l) b = 1 ∧ (allE (l ++ [a]) == 0) = false) ∨
    (allE l = 0 ∧ twoE (allM l) a = 1 ∧ (allE (l ++ [a]) == 0) = false) := by
  by_cases h0 : allE l = 0
  · have hm : okM (allM l) = true := by rw [allM_of h0]; exact rowM_ok l
    obtain ⟨m1, m2⟩ := okM_yes hm
    cases ha : okM a
    · right; right; right; right; right
      refine ⟨h0, by simp [twoE, ha], ?_⟩
      rw [beq_eq_false_iff_ne]
      intro h
      have := allE_ok h
      rw [List.all_append] at this
      simp [ha] at this
    · have hm2 : allE (l ++ [a]) = 0 → (allM (l ++ [a]) != twoM (allM l) a) = false := fun h => by
        rw [allM_of h, rowM_snoc, ← allM_of h0]
        simp [twoM, hm, ha]
      obtain ⟨a1, a2⟩ := okM_yes ha
      cases hb : okM b
      · by_cases h1 : allE (l ++ [a]) = 0
        · right; right; right; left
          exact ⟨h0, by simp [twoE, ha, hm], by simp [twoE, hb], h1, hm2 h1⟩
        · right; right; right; right; left
          exact ⟨h0, by simp [twoE, ha, hm], by simp [twoE, hb], by simpa using h1⟩
      · obtain ⟨b1, b2⟩ := okM_yes hb
        have hp : (twoM (allM l) a == twoM (allM l) b) = (a == b) := by
          simp only [twoM, hm, ha, hb, Bool.and_self, if_true]
          unfold pairM
          rw [Bool.eq_iff_iff, beq_iff_eq, beq_iff_eq]
          constructor
          · intro h; omega
          · intro h; rw [h]
        by_cases h1 : allE (l ++ [a]) = 0
        · right; left
          exact ⟨h0, by simp [twoE, ha, hm], by simp [twoE, hb, hm], hp, h1, hm2 h1⟩
        · right; right; left
          exact ⟨h0, by simp [twoE, ha, hm], by simp [twoE, hb, hm], hp, by simpa using h1⟩
  · left; simpa using h0

theorem of_ways (s : List UInt8) (c d : UInt8) :
    (ofE (s ++ [c]) = 4 ∧ ofE (s ++ [d]) = 4) ∨
    (ofE (s ++ [c]) = 0 ∧ ofE (s ++ [d]) = 0 ∧ (ofM (s ++ [c]) == ofM (s ++ [d])) = ((c.toNat : Int) == (d.toNat : Int))) := by
  unfold ofE ofM
  by_cases h : 24 < (s ++ [c]).length
  · left
    have h' : 24 < (s ++ [d]).length := by simpa using h
    rw [if_pos h, if_pos h']; exact ⟨rfl, rfl⟩
  · right
    have h' : ¬ 24 < (s ++ [d]).length := by simpa using h
    rw [if_neg h, if_neg h', if_neg h, if_neg h', textM_snoc, textM_snoc]
    refine ⟨rfl, rfl, ?_⟩
    unfold stepT
    have := c.toNat_lt
    have := d.toNat_lt
    rw [Bool.eq_iff_iff, beq_iff_eq, beq_iff_eq]
    constructor
    · intro h; omega
    · intro h; rw [h]

theorem str_of_byte (c : UInt8) (W : World) : (convert 36 9 (.slice (some ⟨W.heap.size, 0, none⟩) 1 1)).run Try.prog (W.alloc (.cells #[.int .u8 (c.toNat : Int)] 5)) = .ok (.string ⟨#[c]⟩) (W.alloc (.cells #[.int .u8 (c.toNat : Int)] 5)) :=
  run_convert_bytes_back (P := Try.prog) _ 36 9 5 ⟨W.heap.size, 0, none⟩ 1 [c] Try.underlying36 Try.underlying5 Try.underlying9 (fun j hj => by
    have : j = 0 := by simpa using hj
    subst this
    show (W.alloc _).cell? ⟨W.heap.size, 0, none⟩ = _
    rw [World.cell?_alloc_mark]; rfl)

set_option maxHeartbeats 2000000 in
theorem measureGoes_walk (w : World) (A : Option Addr) (l : List Int) (cp : Nat) (a b : Int) (s : ByteArray) (c d : UInt8) (hA : IntsAt w A l) (hl : ∀ x ∈ l, I64 x) (hz : l.length * 8 ≤ 140737488351232) (ha : I64 a) (hb : I64 b) (hs : s.size ≤ 140737488351232) :
    Calls Try.prog 6 #[.slice A l.length cp, .int .i64 a, .int .i64 b, .string s, .int .u8 (c.toNat : Int), .int .u8 (d.toNat : Int)] w fun e w' => e = .returned (.bool true) ∧ Below w.heap.size w w' := by
  have en := fun k w => err_neq k w
  have ee := fun k w => err_eql k w
  have gn := fun o k w => err_guard_neq o k w
  have ge := fun o k w => err_guard_eql o k w
  have f1 : twoE 1 2 = 0 := by decide
  have f2 : twoM 1 2 = 7922 := by decide
  have sc := str_of_byte c
  have sd := str_of_byte d
  obtain ⟨y1, hy1⟩ : ∃ y, y = s ++ (⟨#[c]⟩ : ByteArray) := ⟨_, rfl⟩
  obtain ⟨y2, hy2⟩ : ∃ y, y = s ++ (⟨#[d]⟩ : ByteArray) := ⟨_, rfl⟩
  have ac : ∀ W, (Op.stringOp .add s ⟨#[c]⟩).run Try.prog W = .ok (.string y1) W := fun W => by rw [hy1]; exact run_string_add_sum W s ⟨#[c]⟩ (by show s.size + 1 ≤ _; omega)
  have ad : ∀ W, (Op.stringOp .add s ⟨#[d]⟩).run Try.prog W = .ok (.string y2) W := fun W => by rw [hy2]; exact run_string_add_sum W s ⟨#[d]⟩ (by show s.size + 1 ≤ _; omega)
  have z1 : y1.size ≤ 9000000000000000000 := by rw [hy1, ByteArray.size_append']; show s.size + 1 ≤ _; omega
  have z2 : y2.size ≤ 9000000000000000000 := by rw [hy2, ByteArray.size_append']; show s.size + 1 ≤ _; omega
  have L1 : y1.data.toList = s.data.toList ++ [c] := by rw [hy1]; simp
  have L2 : y2.data.toList = s.data.toList ++ [d] := by rw [hy2]; simp
  have HO := Lib.hid (of_ways s.data.toList c d)
  rw [← L1, ← L2] at HO
  have HA := Lib.hid hA
  have HW := Lib.hid (goes_ways l a b)
  obtain ⟨l2, hl2⟩ : ∃ l2, l2 = l ++ [a] := ⟨_, rfl⟩
  rw [← hl2] at HW
  have H2 := Lib.hid hl2
  clear hy1 hy2 L1 L2 hA hl2 ha hb hl
  rcases HW.out with g1 | ⟨g1, g2, g3, g4, g5, g6⟩ | ⟨g1, g2, g3, g4, g5⟩ | ⟨g1, g2, g3, g4, g5⟩ | ⟨g1, g2, g3, g4⟩ | ⟨g1, g2, g3⟩
  · have g1' : (allE l != 0) = true := by simpa using g1
    clear HW
    go_enter Try.func6, Try.ntmps6
    go_wp2_with fail
    refine (two_any _ _ _).mono ?_
    rintro e w' ⟨rfl, rfl⟩
    go_wp2_with fail
    refine (all_any A cp l _ HA.out (by omega)).mono ?_
    rintro e w' ⟨rfl, rfl⟩
    go_wp2_with fail
    refine (mOf_any y1 _ z1).mono ?_
    rintro e u1 ⟨rfl, hu1⟩
    go_wp2_with fail
    refine (mOf_any y2 _ z2).mono ?_
    rintro e u2 ⟨rfl, hu2⟩
    rcases HO.out with ⟨p1, p2⟩ | ⟨p1, p2, p3⟩
    all_goals go_wp2_with fail
    all_goals go_ret
    all_goals exact ⟨rfl, (by repeat (first | exact grow_refl _ | assumption | refine grow_alloc ?_ _ | refine grow_drewN ?_ _ | refine grow_drew ?_ | refine grow_step ?_ (by assumption) | refine grow_base ?_ (by assumption)))⟩
  all_goals
    clear HW
    go_enter Try.func6, Try.ntmps6
    go_wp2_with fail
    refine (two_any _ _ _).mono ?_
    rintro e w' ⟨rfl, rfl⟩
    go_wp2_with fail
    refine (all_any A cp l _ HA.out (by omega)).mono ?_
    rintro e w' ⟨rfl, rfl⟩
    go_wp2_with fail
    refine (two_any _ _ _).mono ?_
    rintro e w' ⟨rfl, rfl⟩
    go_wp2_with fail
    refine (two_any _ _ _).mono ?_
    rintro e w' ⟨rfl, rfl⟩
    have tok1 : True := trivial
    go_wp2_with (first
      | (at_builtin; have _t := tok1; clear tok1; refine app_ints rfl _ _ rfl w.heap.size none 0 [] rfl (OwnI.start _ _) A cp l rfl HA.out (by simp; omega) (Nat.le_refl _) ?_; intro A1 c1 zs w1 hz1 ho1 hb1; have hzl : zs.length = l.length := (by rw [hz1.out]; rfl); have HZ := Lib.hid hzl; clear hzl)
      | (at_builtin; refine app_ints rfl _ _ rfl w.heap.size A1 c1 zs rfl (ho1.below ((Below.refl _ _).alloc (Nat.le_refl _) _)) _ 1 [a] rfl (IntsAt.new_ w1 _ [a] _) (by rw [HZ.out]; simp; omega) (grow_alloc (grow_base (grow_refl _) hb1) _).size ?_; intro A2 c2 zs2 w2 hz2 ho2 hb2; obtain rfl : zs2 = l2 := (by rw [hz2.out, hz1.out, H2.out]; rfl); have HL : Hid (zs2.length = l.length + 1) := Lib.hid (by rw [H2.out]; simp); clear hz2 hz1))
    refine (all_any A2 c2 zs2 _ ho2.ints (by rw [HL.out]; omega)).mono ?_
    rintro e w3 ⟨rfl, rfl⟩
    go_wp2_with fail
    refine (mOf_any y1 _ z1).mono ?_
    rintro e u1 ⟨rfl, hu1⟩
    go_wp2_with fail
    refine (mOf_any y2 _ z2).mono ?_
    rintro e u2 ⟨rfl, hu2⟩
    rcases HO.out with ⟨p1, p2⟩ | ⟨p1, p2, p3⟩
    all_goals go_wp2_with fail
    all_goals go_ret
    all_goals exact ⟨rfl, (by repeat (first | exact grow_refl _ | assumption | refine grow_alloc ?_ _ | refine grow_drewN ?_ _ | refine grow_drew ?_ | refine grow_step ?_ (by assumption) | refine grow_base ?_ (by assumption)))⟩

set_option maxRecDepth 100000 in
theorem measureGoes_walks (H : Type) (enc : TypeId × Value → H) : Walks enc Try.prog 6 Try.f6 := by
  intro W base args ds p hval hA hlt hsz hsh
  have hsz0 := hsz
  rw [Try.params6] at hA hval
  obtain ⟨v0, vs0, d0, ds0, p0, q0, hargs, rfl, rfl, h0, r0⟩ := trodAll_cons hA
  obtain ⟨v1, vs1, d1, ds1, p1, q1, rfl, rfl, rfl, h1, r1⟩ := trodAll_cons r0
  obtain ⟨v2, vs2, d2, ds2, p2, q2, rfl, rfl, rfl, h2, r2⟩ := trodAll_cons r1
  obtain ⟨v3, vs3, d3, ds3, p3, q3, rfl, rfl, rfl, h3, r3⟩ := trodAll_cons r2
  obtain ⟨v4, vs4, d4, ds4, p4, q4, rfl, rfl, rfl, h4, r4⟩ := trodAll_cons r3
  obtain ⟨v5, vs5, d5, ds5, p5, q5, rfl, rfl, rfl, h5, r5⟩ := trodAll_cons r4
  obtain ⟨rfl, rfl, rfl⟩ := trodAll_nil r5
  obtain rfl : args = #[v0, v1, v2, v3, v4, v5] := by cases args; simp_all
  obtain ⟨A0, a0, c0, rfl, w0, i0, z0⟩ := op_ints (hval 0 33 v0 rfl rfl) h0 (fun x hx => hlt x (by simp [hx])) (w_each hsz 0 33 _ (by rw [Try.params6]; rfl) rfl)
  obtain ⟨a1, rfl, w1⟩ := op_int (hval 1 3 v1 rfl rfl) h1
  obtain ⟨a2, rfl, w2⟩ := op_int (hval 2 3 v2 rfl rfl) h2
  obtain ⟨a3, rfl, w3⟩ := op_str (hval 3 9 v3 rfl rfl) h3 (w_each hsz 3 9 _ (by rw [Try.params6]; rfl) rfl)
  obtain ⟨a4, rfl⟩ := op_byte (hval 4 5 v4 rfl rfl) h4
  obtain ⟨a5, rfl⟩ := op_byte (hval 5 5 v5 rfl rfl) h5
  exact measureGoes_walk W A0 a0 c0 a1 a2 a3 a4 a5 w0 i0 z0 w1 w2 w3

set_option maxRecDepth 100000 in
theorem measureGoes_lifted (os : Os) (started : os.Started) (H : Type) (enc : TypeId × Value → H) :
    ReturnsInHanded {} Try.checked os 6 .any (Rows.measureGoesSpec.pre6 enc Try.prog Try.f6 Rows.measureGoesRow.domain false) (Rows.measureGoesSpec.post enc Try.prog Try.f6 false true false false) :=
  returns_of_walk (C := Try.checked) (s := Rows.measureGoesSpec) own started (by kernel_rfl) Try.func6
    (ChangeSpec.witness6 (enc := enc) (C := Try.checked) false ⟨#[], #[.slice none 0 0, .int .i64 0, .int .i64 0, .string ⟨#[]⟩, .int .u8 0, .int .u8 0], []⟩ 8 (by kernel_rfl) (by kernel_rfl) (by kernel_rfl) (by kernel_rfl))
    laidOut (by kernel_rfl) (by kernel_rfl) Try.underlying4 rfl (fun ds h => by match ds, h with | [_, _, _, _, _, _], _ => rfl) (measureGoes_walks H enc)

theorem measureGoes_holds : Rows.MeasureGoesSaid :=
  OpenClaim.holds_of_wide 6 Try.f6 rfl rfl rfl rfl rfl rfl rfl ⟨rfl, rfl, rfl, rfl, rfl⟩ rfl rfl rfl rfl rfl (by kernel_rfl) Try.func6 (by kernel_rfl)
    (of_decide_eq_true (by kernel_rfl)) (by unfold Func.isWrapper; rw [if_neg (of_decide_eq_false (by kernel_rfl))]; exact ⟨rfl, rfl⟩)
    (fun os started H enc _ => measureGoes_lifted os started H enc)

end Go.Proofs.Ytfklbifgjpocnaa
