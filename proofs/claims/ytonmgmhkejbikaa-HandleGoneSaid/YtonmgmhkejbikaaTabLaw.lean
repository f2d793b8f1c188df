/- Tables of handles: plain laws, no program in sight. -/
import Derived.Test.YtonmgmhkejbikaaTabNew
namespace Go.Proofs.Ytonmgmhkejbikaa
open Go.RowKit Go.Shelf
set_option linter.unusedVariables false
set_option linter.unusedSimpArgs false

theorem okAt_iff {g a : Int} : okAt g a = true ↔ 0 ≤ g ∧ g ≤ 2147483647 ∧ -1 ≤ a ∧ (0 ≤ a → g < 2147483647) := by
  refine ⟨okAt_facts, fun h => ?_⟩
  simp [okAt]
  omega
theorem may_iff {gs ps : List Int} : may gs ps = true ↔ ps.length = gs.length ∧ gs.length ≤ 65536 ∧ ∀ k, k < gs.length → okAt (gs.getD k 0) (ps.getD k 0) = true := by
  constructor
  · intro h
    exact ⟨(may_len h).1, (may_len h).2, fun k hk => may_at h hk⟩
  · rintro ⟨h1, h2, h3⟩
    simp only [may, Bool.and_eq_true, decide_eq_true_eq]
    refine ⟨⟨h1, h2⟩, ?_⟩
    rw [okTo, List.all_eq_true]
    intro k hk
    exact h3 k (by simpa using hk)
theorem isH_iff {gs ps : List Int} {n g : Int} : isH gs ps n g = true ↔ 0 ≤ n ∧ n < gs.length ∧ 0 ≤ ps.getD n.toNat 0 ∧ gs.getD n.toNat 0 = g := by
  refine ⟨isH_facts, fun h => ?_⟩
  simp only [isH, Bool.and_eq_true, decide_eq_true_eq]
  exact ⟨⟨⟨h.1, h.2.1⟩, h.2.2.1⟩, h.2.2.2⟩
theorem getD_set_eq {l : List Int} {k : Nat} {a : Int} (h : k < l.length) : (l.set k a).getD k 0 = a := by
  simp [List.getD_eq_getElem?_getD, h]
theorem getD_set_ne {l : List Int} {k j : Nat} {a : Int} (h : j ≠ k) : (l.set k a).getD j 0 = l.getD j 0 := by
  have h' : ¬ k = j := fun e => h e.symm
  simp [List.getD_eq_getElem?_getD, List.getElem?_set, h']
theorem getD_push_lt {l : List Int} {k : Nat} {a : Int} (h : k < l.length) : (l ++ [a]).getD k 0 = l.getD k 0 := by
  simp [List.getD_eq_getElem?_getD, List.getElem?_append_left h]
theorem getD_push_eq {l : List Int} {a : Int} : (l ++ [a]).getD l.length 0 = a := by
  simp [List.getD_eq_getElem?_getD]

theorem findE_is {gs ps : List Int} {n g : Int} (hm : may gs ps = true) (hi : isH gs ps n g = true) : findE gs ps n g = 0 ∧ findV gs ps n g = ps.getD n.toNat 0 := by simp [findE, findV, hm, hi]
theorem findE_not {gs ps : List Int} {n g : Int} (hm : may gs ps = true) (hi : isH gs ps n g = false) : findE gs ps n g = 140 ∧ findV gs ps n g = 0 := by simp [findE, findV, hm, hi]

/-- a place is turned: the table may still be -/
theorem may_move {gs ps : List Int} {n g a : Int} (hm : may gs ps = true) (hi : isH gs ps n g = true) (ha : 0 ≤ a) : may gs (ps.set n.toNat a) = true := by
  obtain ⟨h1, h2, h3⟩ := may_iff.1 hm
  obtain ⟨i1, i2, i3, i4⟩ := isH_iff.1 hi
  refine may_iff.2 ⟨by simpa using h1, h2, fun k hk => ?_⟩
  by_cases e : k = n.toNat
  · subst e
    have := okAt_iff.1 (h3 n.toNat hk)
    rw [getD_set_eq (by omega)]
    exact okAt_iff.2 ⟨this.1, this.2.1, by omega, fun _ => this.2.2.2 i3⟩
  · rw [getD_set_ne e]
    exact h3 k hk
theorem isH_move {gs ps : List Int} {n g a : Int} (hm : may gs ps = true) (hi : isH gs ps n g = true) (ha : 0 ≤ a) : isH gs (ps.set n.toNat a) n g = true := by
  obtain ⟨h1, h2, h3⟩ := may_iff.1 hm
  obtain ⟨i1, i2, i3, i4⟩ := isH_iff.1 hi
  refine isH_iff.2 ⟨i1, i2, ?_, i4⟩
  rw [getD_set_eq (by omega)]
  exact ha
/-- another handle's place stays -/
theorem isH_other {gs ps : List Int} {n g a m h : Int} (hm : may gs ps = true) (hi : isH gs ps n g = true) (ha : 0 ≤ a) (hne : ¬ (m = n ∧ h = g)) : isH gs (ps.set n.toNat a) m h = isH gs ps m h ∧ (isH gs ps m h = true → (ps.set n.toNat a).getD m.toNat 0 = ps.getD m.toNat 0) := by
  obtain ⟨h1, h2, h3⟩ := may_iff.1 hm
  obtain ⟨i1, i2, i3, i4⟩ := isH_iff.1 hi
  by_cases e : m = n
  · subst e
    have hg : h ≠ g := fun e => hne ⟨rfl, e⟩
    have c1 : isH gs ps m h = false := by
      cases hc : isH gs ps m h with
      | false => rfl
      | true => exact absurd ((isH_iff.1 hc).2.2.2.symm.trans i4) hg
    have c2 : isH gs (ps.set m.toNat a) m h = false := by
      cases hc : isH gs (ps.set m.toNat a) m h with
      | false => rfl
      | true => exact absurd ((isH_iff.1 hc).2.2.2.symm.trans i4) hg
    rw [c1, c2]
    exact ⟨rfl, fun h => by cases h⟩
  · by_cases hmn : 0 ≤ m
    · have hk : m.toNat ≠ n.toNat := by omega
      refine ⟨?_, fun _ => getD_set_ne hk⟩
      rw [isH, isH, getD_set_ne hk]
    · have d1 : decide (0 ≤ m) = false := by simpa using hmn
      refine ⟨by rw [isH, isH, d1]; rfl, fun hc => absurd (isH_iff.1 hc).1 hmn⟩
theorem find_other {gs ps : List Int} {n g a m h : Int} (hm : may gs ps = true) (hi : isH gs ps n g = true) (ha : 0 ≤ a) (hne : ¬ (m = n ∧ h = g)) : findE gs (ps.set n.toNat a) m h = findE gs ps m h ∧ findV gs (ps.set n.toNat a) m h = findV gs ps m h := by
  have hm2 := may_move hm hi ha
  obtain ⟨k1, k2⟩ := isH_other (m := m) (h := h) hm hi ha hne
  cases hc : isH gs ps m h with
  | true =>
    rw [hc] at k1
    rw [(findE_is hm2 k1).1, (findE_is hm2 k1).2, (findE_is hm hc).1, (findE_is hm hc).2]
    exact ⟨rfl, k2 hc⟩
  | false =>
    rw [hc] at k1
    rw [(findE_not hm2 k1).1, (findE_not hm2 k1).2, (findE_not hm hc).1, (findE_not hm hc).2]
    exact ⟨rfl, rfl⟩
theorem set_back {ps : List Int} {k : Nat} {a : Int} : (ps.set k a).set k (ps.getD k 0) = ps := by
  rw [List.set_set]
  apply List.ext_getElem?
  intro i
  rw [List.getElem?_set]
  split
  · rename_i e
    subst e
    by_cases h : k < ps.length
    · simp [List.getD_eq_getElem?_getD, h]
    · simp [h]
  · rfl
end Go.Proofs.Ytonmgmhkejbikaa
