/- Plain: what is closed opens where all that it asks for is alike; where one register that it asks for went further the digest is another. -/
import Derived.Test.YtdedllfgeekogaaGreatDoorNum
import Derived.Test.YtdedllfgeekogaaGreatDoorAlike
namespace Go.Proofs.YtdedllfgeekogaaGreatDoor

theorem dio {t q : Int} (h : 7919 * t = 1000003 * q) (h1 : -1000003 < t) (h2 : t < 1000003) : t = 0 := by
  have e : t = 658671 * (7919 * t) - 5216 * (1000003 * t) := by
    rw [← Int.mul_assoc, ← Int.mul_assoc, ← Int.sub_mul, show (658671 * 7919 - 5216 * 1000003 : Int) = 1 from by decide, Int.one_mul]
  rw [h] at e
  obtain ⟨r, hr⟩ : ∃ r, t = 1000003 * r := ⟨658671 * q - 5216 * t, by
    rw [Int.mul_sub, Int.mul_left_comm 1000003 658671 q, Int.mul_left_comm 1000003 5216 t]; exact e⟩
  clear h e
  subst hr
  have : r = 0 := by omega
  rw [this]; rfl
theorem pair_step {u v z q : Int} (h : 7919 * u + z + 1 - (7919 * v + z + 1) = 1000003 * q) : 7919 * (u - v) = 1000003 * q := by rw [Int.mul_sub]; omega
theorem pairM_injL {u v z : Int} (hu : okM u = true) (hv : okM v = true) (h : pairM u z = pairM v z) : u = v := by
  obtain ⟨u1, u2⟩ := okM_yes hu
  obtain ⟨v1, v2⟩ := okM_yes hv
  unfold pairM at h
  obtain ⟨q, hq⟩ := Int.dvd_of_emod_eq_zero (Int.emod_eq_emod_iff_emod_sub_eq_zero.1 h)
  have h3 := pair_step hq
  clear hq h
  have h1 : -1000003 < u - v := by clear h3; omega
  have h2 : u - v < 1000003 := by clear h3; omega
  have := dio h3 h1 h2
  clear h3
  omega
theorem isM_fold (b : List Int) (m : Int) : isM b m = ((List.range 8).filter (bitM m)).foldl (fun a j => pairM a (b.getD j 0)) 0 := by
  unfold isM rowM toldM toldK
  rw [List.foldl_map]
theorem fold_apart (b d : List Int) (i : Nat) (hi : ∀ j, j ≠ i → d.getD j 0 = b.getD j 0) : ∀ (js : List Nat), i ∉ js → ∀ u v, okM u = true → okM v = true → u ≠ v →
    js.foldl (fun a j => pairM a (b.getD j 0)) u ≠ js.foldl (fun a j => pairM a (d.getD j 0)) v
  | [], _, u, v, _, _, h => h
  | j :: js, hn, u, v, hu, hv, h => by
    rw [List.foldl_cons, List.foldl_cons]
    have hj : j ≠ i := fun e => hn (by rw [e]; exact List.mem_cons_self ..)
    rw [hi j hj]
    exact fold_apart b d i hi js (fun e => hn (List.mem_cons_of_mem _ e)) _ _ (pairM_ok _ _) (pairM_ok _ _) (fun e => h (pairM_injL hu hv e))
theorem fold_apart2 (b d : List Int) (i : Nat) (hi : ∀ j, j ≠ i → d.getD j 0 = b.getD j 0) (hb : okM (b.getD i 0) = true) (hd : okM (d.getD i 0) = true) (hne : b.getD i 0 ≠ d.getD i 0) : ∀ (js : List Nat), js.Nodup → i ∈ js → ∀ u, okM u = true →
    js.foldl (fun a j => pairM a (b.getD j 0)) u ≠ js.foldl (fun a j => pairM a (d.getD j 0)) u
  | [], _, h, _, _ => absurd h (by simp)
  | j :: js, hn, h, u, hu => by
    rw [List.foldl_cons, List.foldl_cons]
    obtain ⟨h1, h2⟩ := List.nodup_cons.1 hn
    by_cases e : j = i
    · subst e
      exact fold_apart b d j hi js h1 _ _ (pairM_ok _ _) (pairM_ok _ _) (fun e => hne ((pairM_inj hb hd).1 e))
    · rw [hi j e]
      rcases List.mem_cons.1 h with h3 | h3
      · exact absurd h3.symm e
      · exact fold_apart2 b d i hi hb hd hne js h2 h3 _ (pairM_ok _ _)
theorem told_one {b : List Int} {i : Nat} {v m : Int} (h : (toldM b m == toldM (b.set i v) m) = false) (hi : i < 8) : bitM m i = true ∧ b.getD i 0 ≠ (b.set i v).getD i 0 := by
  rw [← alike_told] at h
  unfold alikeK at h
  rw [List.all_eq_false] at h
  obtain ⟨j, hj, h2⟩ := h
  simp only [Bool.or_eq_true, Bool.not_eq_true', beq_iff_eq, not_or, Bool.not_eq_false] at h2
  by_cases e : j = i
  · subst e; exact h2
  · exact absurd (set_getD b i j v e).symm h2.2
theorem dig_apart {b : List Int} {i : Nat} {v m : Int} (hb : b.all okM = true) (h8 : b.length = 8) (hi : i < 8) (hv : okM v = true) (h : (toldM b m == toldM (b.set i v) m) = false) : isM b m ≠ isM (b.set i v) m := by
  obtain ⟨h1, h2⟩ := told_one h hi
  rw [isM_fold, isM_fold]
  have hd : (b.set i v).getD i 0 = v := by rw [List.getD_eq_getElem?_getD, List.getElem?_set_self (by omega)]; rfl
  exact fold_apart2 b _ i (fun j hj => set_getD b i j v hj) (all_at hb i (by omega)) (by rw [hd]; exact hv) h2 _ (List.Nodup.sublist List.filter_sublist List.nodup_range) (List.mem_filter.2 ⟨List.mem_range.2 hi, h1⟩) 0 (by decide)
theorem dig_alike {b c : List Int} {m : Int} (h : (toldM b m == toldM c m) = true) : isM b m = isM c m := by
  unfold isM; rw [eq_of_beq h]

/-- What is closed. -/
theorem close_ok {s m : Int} {b : List Int} (h : clE s m b = 0) : okM s = true ∧ b.all okM = true ∧ okMask m = true ∧ clM s m b = m ∧ clL s m b = pairM (isM b m) 1 ∧ clI s m b = (s + pairM (isM b m) 2) % 1000003 := by
  unfold clE at h
  cases hs : okM s
  · rw [hs, if_neg (by decide)] at h; exact absurd h (by decide)
  · rw [hs, if_pos rfl] at h
    have hc : clOk s m b = true := by unfold clOk; rw [hs, h]; rfl
    unfold digE at h
    cases hb : (b.all okM && okMask m)
    · rw [hb] at h; exact absurd h (by decide)
    · obtain ⟨h1, h2⟩ := Bool.and_eq_true_iff.1 hb
      have hd : digM b m = isM b m := by unfold digM; rw [hb, if_pos rfl]
      exact ⟨rfl, h1, h2, by unfold clM; rw [hc]; rfl, by unfold clL; rw [hc, hd]; rfl, by unfold clI; rw [hc, hd]; rfl⟩
theorem open_of {s m : Int} {b c : List Int} (h : clE s m b = 0) (hc : c.all okM = true) :
    opE m (clL s m b) (clI s m b) c = (if isM c m = isM b m then 0 else 8) ∧ (isM c m = isM b m → opM m (clL s m b) (clI s m b) c = s) := by
  obtain ⟨hs, hb, hm, _, hL, hI⟩ := close_ok h
  obtain ⟨s1, s2⟩ := okM_yes hs
  have oL : okM (clL s m b) = true := by rw [hL]; exact pairM_ok _ _
  have oI : okM (clI s m b) = true := by rw [hI]; exact okM_mk (by omega) (by omega)
  have hd : digM c m = isM c m := by unfold digM; rw [hc, hm]; rfl
  have hde : digE c m = 0 := by unfold digE; rw [hc, hm]; rfl
  have oc : okM (isM c m) = true := by unfold isM; exact rowM_ok _
  have ob : okM (isM b m) = true := by unfold isM; exact rowM_ok _
  have hE : opE m (clL s m b) (clI s m b) c = (if isM c m = isM b m then 0 else 8) := by
    unfold opE
    rw [oL, oI, hde, hd, hL]
    simp only [Bool.and_self, if_true]
    by_cases e : isM c m = isM b m
    · rw [if_pos e, e, if_pos rfl]
    · rw [if_neg e, if_neg (fun h2 => e (pairM_injL oc ob h2))]
  refine ⟨hE, fun e => ?_⟩
  unfold opM
  rw [hE, if_pos e, if_pos rfl, hd, e, hI]
  obtain ⟨p1, p2⟩ := okM_yes (pairM_ok (isM b m) 2)
  omega
end Go.Proofs.YtdedllfgeekogaaGreatDoor
