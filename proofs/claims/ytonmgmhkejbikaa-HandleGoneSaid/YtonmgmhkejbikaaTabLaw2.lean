/- What Make makes of a table: plain laws. -/
import Derived.Test.YtonmgmhkejbikaaTabLaw
namespace Go.Proofs.Ytonmgmhkejbikaa
open Go.RowKit Go.Shelf
set_option linter.unusedVariables false
set_option linter.unusedSimpArgs false

theorem make_err {gs ps : List Int} {a : Int} (h : makeE gs ps a ≠ 0) : makeOk gs ps a = false ∧ makeG gs ps a = [] ∧ makeN gs ps a = 0 ∧ makeK gs ps a = 0 := by
  have hk : makeOk gs ps a = false := by
    cases hc : makeOk gs ps a with
    | false => rfl
    | true =>
      refine absurd ?_ h
      have h0 := hc
      simp only [makeOk, Bool.and_eq_true, decide_eq_true_eq] at h0
      have : ¬ a < 0 := by omega
      simp [makeE, h0.1.1, this, hc]
  exact ⟨hk, by simp [makeG, hk], by simp [makeN, hk], by simp [makeK, hk]⟩
theorem make_is {gs ps : List Int} {a : Int} (h : makeE gs ps a = 0) : makeOk gs ps a = true := by
  cases hc : makeOk gs ps a with
  | true => rfl
  | false =>
    simp only [makeE, hc] at h
    split at h
    · split at h
      · cases h
      · simp at h
    · cases h

theorem cntTo_congr {ps qs : List Int} {k : Nat} (h : ∀ j, j < k → (0 ≤ ps.getD j 0 ↔ 0 ≤ qs.getD j 0)) : cntTo ps k = cntTo qs k := by
  induction k with
  | zero => rfl
  | succ k ih =>
    have h1 := ih (fun j hj => h j (by omega))
    have h2 := h k (by omega)
    by_cases c : 0 ≤ ps.getD k 0
    · rw [cntTo_yes c, cntTo_yes (h2.1 c), h1]
    · rw [cntTo_no c, cntTo_no (fun e => c (h2.2 e)), h1]
theorem cntTo_set {ps : List Int} {n k : Nat} {a : Int} (hk : k < n) (hl : k < ps.length) (h1 : ps.getD k 0 < 0) (h2 : 0 ≤ a) : cntTo (ps.set k a) n = cntTo ps n + 1 := by
  induction n with
  | zero => omega
  | succ n ih =>
    by_cases e : k = n
    · subst e
      rw [cntTo_yes (by rw [getD_set_eq hl]; exact h2), cntTo_no (by omega), cntTo_congr (qs := ps) (fun j hj => by rw [getD_set_ne (by omega)])]
    · have := ih (by omega)
      by_cases c : 0 ≤ ps.getD n 0
      · rw [cntTo_yes c, cntTo_yes (by rw [getD_set_ne (fun e' => e e'.symm)]; exact c), this]
      · rw [cntTo_no c, cntTo_no (by rw [getD_set_ne (fun e' => e e'.symm)]; exact c), this]

/-- what Make makes of a table, its handle, and all others -/
structure Made (gs ps : List Int) (a : Int) (gs2 ps2 : List Int) (n g : Int) : Prop where
  may2 : may gs2 ps2 = true
  is2 : isH gs2 ps2 n g = true
  val : ps2.getD n.toNat 0 = a
  not1 : isH gs ps n g = false
  cnt : (liveN gs2 ps2 : Int) = liveN gs ps + 1
  oth : ∀ m h, ¬ (m = n ∧ h = g) → isH gs2 ps2 m h = isH gs ps m h ∧ (isH gs ps m h = true → ps2.getD m.toNat 0 = ps.getD m.toNat 0)
  len : gs2.length ≤ gs.length + 1
  gens : ∀ k, k < gs.length → gs2.getD k 0 = gs.getD k 0
  less : gs.length ≤ gs2.length
  num : 0 ≤ n
  own : n < gs.length → gs.getD n.toNat 0 = g

theorem made_of {gs ps : List Int} {a : Int} (hok : makeOk gs ps a = true) : may gs ps = true ∧ 0 ≤ a ∧ Made gs ps a (makeG gs ps a) (makeP gs ps a) (makeN gs ps a) (makeK gs ps a) := by
  have h0 := hok
  simp only [makeOk, Bool.and_eq_true, decide_eq_true_eq, Bool.or_eq_true] at h0
  obtain ⟨⟨hm, ha⟩, hf⟩ := h0
  obtain ⟨h1, h2, h3⟩ := may_iff.1 hm
  refine ⟨hm, ha, ?_⟩
  cases hc : firstF gs ps with
  | some k =>
    obtain ⟨k1, k2, k3⟩ := firstF_is hc
    simp only [freeB, Bool.and_eq_true, decide_eq_true_eq] at k2
    have kp : k < ps.length := by omega
    have e1 : makeG gs ps a = gs := by simp [makeG, hok, hc]
    have e2 : makeP gs ps a = ps.set k a := by simp [makeP, hok, hc]
    have e3 : makeN gs ps a = k := by simp [makeN, hok, hc]
    have e4 : makeK gs ps a = gs.getD k 0 := by simp only [makeK, hok, hc, if_true]
    rw [e1, e2, e3, e4]
    have hk := okAt_iff.1 (h3 k k1)
    have hm2 : may gs (ps.set k a) = true := by
      refine may_iff.2 ⟨by simpa using h1, h2, fun j hj => ?_⟩
      by_cases e : j = k
      · subst e
        rw [getD_set_eq kp]
        exact okAt_iff.2 ⟨hk.1, hk.2.1, by omega, fun _ => k2.2⟩
      · rw [getD_set_ne e]; exact h3 j hj
    refine ⟨hm2, isH_iff.2 ⟨by omega, by omega, ?_, rfl⟩, by rw [Int.toNat_natCast, getD_set_eq kp], ?_, ?_, ?_, by omega, fun _ _ => rfl, Nat.le_refl _, by omega, fun _ => rfl⟩
    · rw [Int.toNat_natCast, getD_set_eq kp]; exact ha
    · cases hi : isH gs ps k (gs.getD k 0) with
      | false => rfl
      | true => have := (isH_iff.1 hi).2.2.1; rw [Int.toNat_natCast] at this; omega
    · rw [liveN_yes hm, liveN_yes hm2, cntTo_set k1 kp k2.1 ha]; rfl
    · intro m h hne
      by_cases e : m = k
      · subst e
        have hg : gs.getD k 0 ≠ h := fun e => hne ⟨rfl, e.symm⟩
        have c1 : isH gs ps k h = false := by
          cases hi : isH gs ps k h with
          | false => rfl
          | true => have := (isH_iff.1 hi).2.2.2; rw [Int.toNat_natCast] at this; exact absurd this hg
        have c2 : isH gs (ps.set k a) k h = false := by
          cases hi : isH gs (ps.set k a) k h with
          | false => rfl
          | true => have := (isH_iff.1 hi).2.2.2; rw [Int.toNat_natCast] at this; exact absurd this hg
        rw [c1, c2]
        exact ⟨rfl, fun h => by cases h⟩
      · by_cases hm0 : 0 ≤ m
        · have hk2 : m.toNat ≠ k := by omega
          exact ⟨by rw [isH, isH, getD_set_ne hk2], fun _ => getD_set_ne hk2⟩
        · have d1 : decide (0 ≤ m) = false := by simpa using hm0
          exact ⟨by rw [isH, isH, d1]; rfl, fun hi => absurd (isH_iff.1 hi).1 hm0⟩
  | none =>
    have hne : gs.length ≠ 65536 := by
      rcases hf with h | h
      · rw [hc] at h; cases h
      · simpa using h
    have e1 : makeG gs ps a = gs ++ [0] := by simp [makeG, hok, hc]
    have e2 : makeP gs ps a = ps ++ [a] := by simp [makeP, hok, hc]
    have e3 : makeN gs ps a = gs.length := by simp [makeN, hok, hc]
    have e4 : makeK gs ps a = 0 := by simp [makeK, hok, hc]
    rw [e1, e2, e3, e4]
    have q1 : (gs ++ [0]).getD gs.length 0 = 0 := getD_push_eq
    have q2 : (ps ++ [a]).getD gs.length 0 = a := by rw [← h1]; exact getD_push_eq
    have hm2 : may (gs ++ [0]) (ps ++ [a]) = true := by
      refine may_iff.2 ⟨by simp [h1], by simp; omega, fun j hj => ?_⟩
      by_cases e : j = gs.length
      · subst e
        rw [q1, q2]
        exact okAt_iff.2 ⟨by omega, by omega, by omega, fun _ => by omega⟩
      · have hj2 : j < gs.length := by simp at hj; omega
        rw [getD_push_lt hj2, getD_push_lt (by omega)]
        exact h3 j hj2
    refine ⟨hm2, isH_iff.2 ⟨by omega, by simp; omega, ?_, ?_⟩, by rw [Int.toNat_natCast]; exact q2, ?_, ?_, ?_, by simp, fun k hk => getD_push_lt hk, by simp, by omega, fun h => by omega⟩
    · rw [Int.toNat_natCast, q2]; exact ha
    · rw [Int.toNat_natCast]; exact q1
    · cases hi : isH gs ps gs.length 0 with
      | false => rfl
      | true => have := (isH_iff.1 hi).2.1; omega
    · rw [liveN_yes hm, liveN_yes hm2, List.length_append, List.length_singleton, cntTo_yes (by rw [q2]; exact ha), cntTo_congr (qs := ps) (fun j hj => by rw [getD_push_lt (by omega)])]; rfl
    · intro m h hne2
      by_cases hm0 : 0 ≤ m
      · by_cases e : m = gs.length
        · subst e
          have hg : h ≠ 0 := fun e => hne2 ⟨rfl, e⟩
          have c1 : isH gs ps gs.length h = false := by
            cases hi : isH gs ps gs.length h with
            | false => rfl
            | true => have := (isH_iff.1 hi).2.1; omega
          have c2 : isH (gs ++ [0]) (ps ++ [a]) gs.length h = false := by
            cases hi : isH (gs ++ [0]) (ps ++ [a]) gs.length h with
            | false => rfl
            | true => have := (isH_iff.1 hi).2.2.2; rw [Int.toNat_natCast, q1] at this; exact absurd this.symm hg
          rw [c1, c2]
          exact ⟨rfl, fun h => by cases h⟩
        · by_cases hlt : m < gs.length
          · have a1 : (gs ++ [0]).getD m.toNat 0 = gs.getD m.toNat 0 := getD_push_lt (by omega)
            have a2 : (ps ++ [a]).getD m.toNat 0 = ps.getD m.toNat 0 := getD_push_lt (by omega)
            have d2 : decide (m < ((gs ++ [0]).length : Nat)) = decide (m < (gs.length : Nat)) := by
              have : m < ((gs ++ [0]).length : Nat) := by simp; omega
              simp only [this, hlt]
            exact ⟨by rw [isH, isH, a1, a2, d2], fun _ => a2⟩
          · have c1 : isH gs ps m h = false := by
              cases hi : isH gs ps m h with
              | false => rfl
              | true => have := (isH_iff.1 hi).2.1; omega
            have c2 : isH (gs ++ [0]) (ps ++ [a]) m h = false := by
              cases hi : isH (gs ++ [0]) (ps ++ [a]) m h with
              | false => rfl
              | true => have := (isH_iff.1 hi).2.1; simp at this; omega
            rw [c1, c2]
            exact ⟨rfl, fun h => by cases h⟩
      · have d1 : decide (0 ≤ m) = false := by simpa using hm0
        exact ⟨by rw [isH, isH, d1]; rfl, fun hi => absurd (isH_iff.1 hi).1 hm0⟩
end Go.Proofs.Ytonmgmhkejbikaa
