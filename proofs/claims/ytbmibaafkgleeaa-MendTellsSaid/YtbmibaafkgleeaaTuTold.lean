/- Merged: TuLaw, ToldPl. -/
import Derived.Test.YtbmibaafkgleeaaMendFit
namespace Go.Proofs.Ytbmibaafkgleeaa
set_option linter.unusedVariables false
set_option linter.unusedSimpArgs false
section
open Go.RowKit

theorem gH_none {lf t0 : Nat → Int × Int} {F lo : Nat} : ∀ (h n : Nat), gH lf t0 F lo lo h n = t0 n := by
  intro h
  induction h with
  | zero => intro n; rw [gH, if_neg (by rw [hit_none]; decide)]
  | succ h ih => intro n; rw [gH, if_neg (by rw [hit_none]; decide)]; exact ih n
end

section
open Go.RowKit

theorem hit_un {D lo hi n : Nat} (h1 : 1 ≤ n) (h2 : n < 2 ^ (D + 1)) : hitB (2 ^ D) lo hi (D - n.log2) n = true ↔ ∃ s, lo ≤ s ∧ s < hi ∧ unF D n ≤ s ∧ s < unT D n := by
  obtain ⟨u1, u2, u3⟩ := un_bd h1 h2
  have hp := Nat.two_pow_pos (D - n.log2)
  have e : (n + 1) * 2 ^ (D - n.log2) = n * 2 ^ (D - n.log2) + 2 ^ (D - n.log2) := by rw [Nat.add_mul, Nat.one_mul]
  rw [hitB_iff]
  unfold unT unF
  constructor
  · rintro ⟨s, s1, s2, s3⟩
    have a1 := Nat.div_mul_le_self (2 ^ D + s) (2 ^ (D - n.log2))
    have a2 := Nat.lt_div_mul_add hp (a := 2 ^ D + s)
    rw [s3] at a1 a2
    exact ⟨s, s1, s2, by omega, by omega⟩
  · rintro ⟨s, s1, s2, s3, s4⟩
    refine ⟨s, s1, s2, Nat.le_antisymm ?_ ?_⟩
    · exact Nat.le_of_lt_succ ((Nat.div_lt_iff_lt_mul hp).2 (show 2 ^ D + s < (n + 1) * 2 ^ (D - n.log2) by omega))
    · rw [Nat.le_div_iff_mul_le hp]; omega
theorem hit_level {D lo hi h n : Nat} (hhi : hi ≤ 2 ^ D) (hh : h ≤ D) (h1 : 1 ≤ n) (h2 : n < 2 ^ (D + 1)) (hne : h ≠ D - n.log2) : hitB (2 ^ D) lo hi h n = false := by
  rw [Bool.eq_false_iff]
  intro e
  obtain ⟨r1, r2⟩ := hit_range hhi hh e
  apply hne
  have : n.log2 = D - h := (Nat.log2_eq_iff (by omega)).2 ⟨r1, by rw [Nat.pow_succ]; omega⟩
  omega
theorem gH_top {lf t0 : Nat → Int × Int} {D lo hi n : Nat} (hhi : hi ≤ 2 ^ D) (h1 : 1 ≤ n) (h2 : n < 2 ^ (D + 1)) : ∀ h, D - n.log2 ≤ h → h ≤ D → gH lf t0 (2 ^ D) lo hi h n = gH lf t0 (2 ^ D) lo hi (D - n.log2) n := by
  intro h
  induction h with
  | zero => intro a _; rw [Nat.le_zero.1 a]
  | succ h ih =>
    intro a b
    by_cases e : D - n.log2 = h + 1
    · rw [e]
    · rw [gH, if_neg (by rw [hit_level hhi b h1 h2 (fun x => e x.symm)]; decide)]
      exact ih (by omega) (by omega)
theorem gH_miss {lf t0 : Nat → Int × Int} {D lo hi n : Nat} : ∀ h, (∀ k, k ≤ h → hitB (2 ^ D) lo hi k n = false) → gH lf t0 (2 ^ D) lo hi h n = t0 n := by
  intro h
  induction h with
  | zero => intro a; rw [gH, if_neg (by rw [a 0 (Nat.le_refl _)]; decide)]
  | succ h ih => intro a; rw [gH, if_neg (by rw [a (h + 1) (Nat.le_refl _)]; decide)]; exact ih fun k hk => a k (by omega)
/-- what is not above a segment of the window stays -/
theorem told_skip {lf t0 : Nat → Int × Int} {D lo hi n : Nat} (hhi : hi ≤ 2 ^ D) (h1 : 1 ≤ n) (h2 : n < 2 ^ (D + 1)) (hs : hi ≤ unF D n ∨ unT D n ≤ lo) : gH lf t0 (2 ^ D) lo hi D n = t0 n := by
  refine gH_miss D fun k hk => ?_
  by_cases e : k = D - n.log2
  · rw [e, Bool.eq_false_iff]
    intro h
    obtain ⟨s, s1, s2, s3, s4⟩ := (hit_un h1 h2).1 h
    omega
  · exact hit_level hhi hk h1 h2 e
theorem told_leaf {lf t0 : Nat → Int × Int} {D lo hi n : Nat} (hhi : hi ≤ 2 ^ D) (h1 : 2 ^ D ≤ n) (h2 : n < 2 ^ (D + 1)) (hs : ¬ (hi ≤ unF D n ∨ unT D n ≤ lo)) : gH lf t0 (2 ^ D) lo hi D n = lf (n - 2 ^ D) := by
  have hp := Nat.two_pow_pos D
  have hlog : n.log2 = D := (Nat.log2_eq_iff (by omega)).2 ⟨h1, h2⟩
  have hF : unF D n = n - 2 ^ D := by rw [unF, hlog, Nat.sub_self, Nat.pow_zero, Nat.mul_one]
  have hT : unT D n = n - 2 ^ D + 1 := by rw [unT, hF, hlog, Nat.sub_self, Nat.pow_zero]
  rw [gH_top hhi (by omega) h2 D (by omega) (Nat.le_refl _), hlog, Nat.sub_self, gH, if_pos (hit0.2 (by omega))]
theorem log2_kids {n : Nat} (h : 1 ≤ n) : (2 * n).log2 = n.log2 + 1 ∧ (2 * n + 1).log2 = n.log2 + 1 := by
  obtain ⟨k1, k2⟩ := node_dj h
  have e : 2 ^ (n.log2 + 1) = 2 * 2 ^ n.log2 := by rw [Nat.pow_succ]; omega
  have e2 : 2 ^ (n.log2 + 1 + 1) = 4 * 2 ^ n.log2 := by rw [Nat.pow_succ, e]; omega
  exact ⟨(Nat.log2_eq_iff (by omega)).2 ⟨by omega, by omega⟩, (Nat.log2_eq_iff (by omega)).2 ⟨by omega, by omega⟩⟩
theorem told_inner {lf t0 : Nat → Int × Int} {D lo hi n : Nat} (hlh : lo ≤ hi) (hhi : hi ≤ 2 ^ D) (h1 : 1 ≤ n) (h2 : n < 2 ^ D) (hs : ¬ (hi ≤ unF D n ∨ unT D n ≤ lo)) (ht : t0 n = jnT (t0 (2 * n)) (t0 (2 * n + 1))) :
    gH lf t0 (2 ^ D) lo hi D n = jnT (gH lf t0 (2 ^ D) lo hi D (2 * n)) (gH lf t0 (2 ^ D) lo hi D (2 * n + 1)) := by
  have h2' : n < 2 ^ (D + 1) := by rw [Nat.pow_succ]; omega
  have c1 : 2 * n < 2 ^ (D + 1) := by rw [Nat.pow_succ]; omega
  have c2 : 2 * n + 1 < 2 ^ (D + 1) := by rw [Nat.pow_succ]; omega
  obtain ⟨l1, l2⟩ := log2_kids h1
  have hlt : n.log2 < D := (Nat.log2_lt (by omega)).2 h2
  by_cases e : lo = hi
  · subst e
    rw [gH_none, gH_none, gH_none]
    exact ht
  · have hh : hitB (2 ^ D) lo hi (D - n.log2) n = true := (hit_un h1 h2').2 ⟨max lo (unF D n), by omega, by omega, by omega, by
      have : unF D n < unT D n := by unfold unT; have := Nat.two_pow_pos (D - n.log2); omega
      omega⟩
    rw [gH_top hhi h1 h2' D (by omega) (Nat.le_refl _), gH_top hhi (by omega) c1 D (by omega) (Nat.le_refl _), gH_top hhi (by omega) c2 D (by omega) (Nat.le_refl _), l1, l2]
    obtain ⟨h, hh'⟩ : ∃ h, D - n.log2 = h + 1 := ⟨D - n.log2 - 1, by omega⟩
    rw [hh'] at hh ⊢
    rw [show D - (n.log2 + 1) = h by omega, gH, if_pos hh]
/-- an index that may be: what a node tells is what the two below it tell, joined -/
theorem may_jn {l : Int} {ms cs : List Int} (h : ixMay l ms cs = true) {n : Nat} (h1 : 1 ≤ n) (h2 : 2 * n + 1 ≤ 2 ^ l.toNat - 1) :
    (tlF l.toNat ms n, tlF l.toNat cs n) = jnT (tlF l.toNat ms (2 * n), tlF l.toNat cs (2 * n)) (tlF l.toNat ms (2 * n + 1), tlF l.toNat cs (2 * n + 1)) := by
  unfold ixMay at h
  rw [Bool.and_eq_true] at h
  have hn := (allFrom_iff.1 h.2) n h1 (by omega)
  simp only [ndB, Bool.and_eq_true, Bool.or_eq_true, decide_eq_true_eq] at hn
  obtain ⟨ho, hj⟩ := hn
  have hj' : joinR (tlF l.toNat ms n) (tlF l.toNat cs n) (tlF l.toNat ms (2 * n)) (tlF l.toNat cs (2 * n)) (tlF l.toNat ms (2 * n + 1)) (tlF l.toNat cs (2 * n + 1)) = true := by
    rcases hj with hj | hj
    · omega
    · exact hj
  simp only [joinR, Bool.and_eq_true, Bool.or_eq_true, decide_eq_true_eq] at hj'
  simp only [ownB, Bool.and_eq_true, Bool.or_eq_true, decide_eq_true_eq] at ho
  obtain ⟨⟨⟨⟨⟨a1, a2⟩, a3⟩, a4⟩, a5, a6⟩, -⟩ := hj'
  obtain ⟨⟨o1, o2⟩, -⟩ := ho
  unfold abM at a5
  unfold jnT
  simp only
  rw [← a5]
  congr 1
  unfold wrap64
  omega
end
end Go.Proofs.Ytbmibaafkgleeaa
