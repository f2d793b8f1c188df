/- What the leaves under a node are: plain laws. -/
import Derived.Test.YtbbacfhhkfgaoaaHeapRef
namespace Go.Proofs.Ytbbacfhhkfgaoaa
open Go.RowKit Go.Shelf
set_option linter.unusedVariables false
set_option linter.unusedSimpArgs false

theorem log2_dbl (n e : Nat) (h1 : 1 ≤ n) (he : e ≤ 1) : (2 * n + e).log2 = n.log2 + 1 := by
  rw [log2_two (by omega), show (2 * n + e) / 2 = n by omega]

/-- a node that is no leaf: the two below it have its leaves -/
theorem und_step {l : Int} {n : Nat} (h : ndE l n = 0) (hlt : n.log2 + 1 < l.toNat) :
    ndE l (2 * n : Nat) = 0 ∧ ndE l (2 * n + 1 : Nat) = 0 ∧ fst l (2 * n : Nat) = fst l n ∧ fst l (2 * n : Nat) + cnt l (2 * n : Nat) = fst l (2 * n + 1 : Nat) ∧
    fst l (2 * n + 1 : Nat) + cnt l (2 * n + 1 : Nat) = fst l n + cnt l n ∧ cnt l (2 * n : Nat) = cnt l (2 * n + 1 : Nat) ∧ 1 ≤ cnt l (2 * n : Nat) := by
  obtain ⟨h1, h2, h3, h4⟩ := ndE_zero h
  have e1 := log2_dbl n 0 (by omega) (by omega)
  have e2 := log2_dbl n 1 (by omega) (by omega)
  rw [Nat.add_zero] at e1
  obtain ⟨t, ht⟩ : ∃ t, l.toNat - 1 - n.log2 = t + 1 := ⟨l.toNat - 1 - n.log2 - 1, by omega⟩
  have ht2 : l.toNat - 1 - (n.log2 + 1) = t := by omega
  have hlast : n < 2 ^ (n.log2 + 1) := (Nat.log2_lt (by omega)).1 (Nat.lt_succ_self _)
  have hL : 2 * n + 1 < 2 ^ l.toNat := by
    have h5 : 2 ^ (n.log2 + 1 + 1) ≤ 2 ^ l.toNat := Nat.pow_le_pow_right (by omega) (by omega)
    rw [Nat.pow_succ] at h5
    omega
  have hc : ((2 ^ l.toNat : Nat) : Int) = 2 ^ l.toNat := by push_cast; rfl
  have p2 : (2 : Int) ^ (t + 1) = 2 * 2 ^ t := by rw [Int.pow_succ, Int.mul_comm]
  obtain ⟨q1, q2⟩ := pow_bd t (by omega)
  have m1 : ((2 * n : Nat) : Int) * 2 ^ t = n * (2 * 2 ^ t) := by push_cast; rw [← Int.mul_assoc, Int.mul_comm 2 (n : Int)]
  have m2 : ((2 * n + 1 : Nat) : Int) * 2 ^ t = n * (2 * 2 ^ t) + 2 ^ t := by
    have : ((2 * n + 1 : Nat) : Int) * 2 ^ t = ((2 * n : Nat) : Int) * 2 ^ t + 2 ^ t := by push_cast; rw [Int.add_mul, Int.one_mul]
    rw [this, m1]
  have f1 : fst l (2 * n : Nat) = n * (2 * 2 ^ t) - 2 ^ (l.toNat - 1) := by rw [fst, Int.toNat_natCast, e1, ht2, m1]
  have f2 : fst l (2 * n + 1 : Nat) = n * (2 * 2 ^ t) + 2 ^ t - 2 ^ (l.toNat - 1) := by rw [fst, Int.toNat_natCast, e2, ht2, m2]
  have f3 : fst l n = n * (2 * 2 ^ t) - 2 ^ (l.toNat - 1) := by rw [fst, Int.toNat_natCast, ht, p2]
  have k1 : cnt l (2 * n : Nat) = 2 ^ t := by rw [cnt, Int.toNat_natCast, e1, ht2]
  have k2 : cnt l (2 * n + 1 : Nat) = 2 ^ t := by rw [cnt, Int.toNat_natCast, e2, ht2]
  have k3 : cnt l n = 2 * 2 ^ t := by rw [cnt, Int.toNat_natCast, ht, p2]
  rw [f1, f2, f3, k1, k2, k3]
  exact ⟨ndE_ok h1 h2 (by omega) (by rw [← hc]; omega), ndE_ok h1 h2 (by omega) (by rw [← hc]; omega), rfl, by omega, by omega, rfl, q1⟩

/-- a leaf -/
theorem und_leaf {l : Int} {n : Nat} (h : ndE l n = 0) (hge : ¬ n.log2 + 1 < l.toNat) :
    ndE l (2 * n : Nat) = 2 ∧ ndE l (2 * n + 1 : Nat) = 2 ∧ cnt l n = 1 ∧ lfE l (fst l n) = 0 ∧ lfR l (fst l n) = n := by
  obtain ⟨h1, h2, h3, h4⟩ := ndE_zero h
  have hlt := (under_bd h1 h2 h3 h4).1
  simp only [Int.toNat_natCast] at hlt
  have hl : l.toNat = n.log2 + 1 := by omega
  have hc : ((2 ^ l.toNat : Nat) : Int) = 2 ^ l.toNat := by push_cast; rfl
  have hc2 : ((2 ^ n.log2 : Nat) : Int) = 2 ^ n.log2 := by push_cast; rfl
  have hfirst : 2 ^ n.log2 ≤ n := (Nat.le_log2 (by omega)).1 (Nat.le_refl _)
  have hp : 2 ^ l.toNat = 2 * 2 ^ n.log2 := by rw [hl, Nat.pow_succ, Nat.mul_comm]
  have hn : n < 2 ^ l.toNat := by omega
  have e : fst l n = n - 2 ^ n.log2 := by simp [fst, hl]
  have nd : ∀ m : Nat, 2 ^ l.toNat ≤ m → ndE l m = 2 := by
    intro m hm
    have : ¬ ((m : Int) < 2 ^ l.toNat) := by rw [← hc]; omega
    simp [ndE, this]
  have hf : lfE l (fst l n) = 0 := by
    rw [e, lfE, hl, if_pos ⟨⟨h1, h2⟩, by rw [← hc2]; omega, by rw [Nat.add_sub_cancel, ← hc2]; omega⟩]
  refine ⟨nd _ (by omega), nd _ (by omega), by simp [cnt, hl], hf, ?_⟩
  rw [lfR, hf, if_pos rfl, e, hl, Nat.add_sub_cancel]
  omega

/-- the leaves of a node lie among those of each node of its path -/
theorem und_path {l : Int} {n : Nat} (h : ndE l n = 0) : ∀ j, j ≤ n.log2 → ndE l (n / 2 ^ j : Nat) = 0 ∧ (n / 2 ^ j).log2 = n.log2 - j ∧ fst l (n / 2 ^ j : Nat) ≤ fst l n ∧ fst l n + cnt l n ≤ fst l (n / 2 ^ j : Nat) + cnt l (n / 2 ^ j : Nat) := by
  obtain ⟨h1, h2, h3, h4⟩ := ndE_zero h
  have hlt := (under_bd h1 h2 h3 h4).1
  simp only [Int.toNat_natCast] at hlt
  intro j
  induction j with
  | zero => intro _; simp [h]
  | succ j ih =>
    intro hj
    obtain ⟨i1, i2, i3, i4⟩ := ih (by omega)
    rw [← half_pow]
    generalize n / 2 ^ j = x at *
    obtain ⟨y, hy⟩ : ∃ y, x / 2 = y := ⟨_, rfl⟩
    rw [hy]
    have hx2 : 2 ≤ x := by
      by_cases hx : 2 ≤ x
      · exact hx
      · rw [log2_one (by omega)] at i2; omega
    have hl := log2_two hx2
    rw [hy] at hl
    obtain ⟨x1, x2, x3, x4⟩ := ndE_zero i1
    have hny : ndE l y = 0 := ndE_ok h1 h2 (by omega) (by omega)
    obtain ⟨s1, s2, s3, s4, s5, s6, s7⟩ := und_step hny (by omega)
    refine ⟨hny, by omega, ?_⟩
    rcases Nat.mod_two_eq_zero_or_one x with hm | hm
    · obtain rfl : x = 2 * y := by omega
      omega
    · obtain rfl : x = 2 * y + 1 := by omega
      omega
end Go.Proofs.Ytbbacfhhkfgaoaa
