/- Trees by levels: paths, depths, leaves under a node. Plain Lean; no program in sight. -/
import Derived.Test.YtfmoghjddfjfmaaDoorLib
namespace Go.Proofs.YtfmoghjddfjfmaaDoor
open Go.RowKit
set_option linter.unusedVariables false
set_option linter.unusedSimpArgs false

/-- the nodes from the root down to one -/
def pth (n : Nat) : List Nat := if h : n ≤ 1 then [1] else pth (n / 2) ++ [n]
termination_by n
decreasing_by omega
theorem pth_one {n : Nat} (h : n ≤ 1) : pth n = [1] := by rw [pth]; simp [h]
theorem pth_two {n : Nat} (h : 2 ≤ n) : pth n = pth (n / 2) ++ [n] := by rw [pth]; simp [show ¬ n ≤ 1 by omega]

theorem log2_two {n : Nat} (h : 2 ≤ n) : n.log2 = (n / 2).log2 + 1 := by rw [Nat.log2_def]; simp [h]
theorem log2_one {n : Nat} (h : n ≤ 1) : n.log2 = 0 := by rw [Nat.log2_def]; simp [show ¬ 2 ≤ n by omega]
theorem log2_lt_of {n k : Nat} (h1 : 1 ≤ n) (h : n < 2 ^ k) : n.log2 < k := (Nat.log2_lt (by omega)).2 h
theorem log2_ge_of {n k : Nat} (h1 : 1 ≤ n) (h : 2 ^ k ≤ n) : k ≤ n.log2 := (Nat.le_log2 (by omega)).2 h

theorem pth_length (n : Nat) : (pth n).length = n.log2 + 1 := by
  induction n using Nat.strongRecOn with
  | ind n ih =>
    by_cases h : n ≤ 1
    · rw [pth_one h, log2_one h]; rfl
    · rw [pth_two (by omega), log2_two (by omega), List.length_append, ih (n / 2) (by omega)]; rfl

/-- the i-th node of a path, from below: n halved i times -/
theorem pth_get (n : Nat) (h1 : 1 ≤ n) : ∀ i, i ≤ n.log2 → (pth n).getD (n.log2 - i) 0 = n / 2 ^ i := by
  induction n using Nat.strongRecOn with
  | ind n ih =>
    intro i hi
    by_cases h : n ≤ 1
    · have h0 := log2_one h
      obtain rfl : i = 0 := by omega
      obtain rfl : n = 1 := by omega
      rw [pth_one h, h0]; rfl
    · rw [pth_two (by omega)]
      have hl := log2_two (n := n) (by omega)
      have hp := pth_length (n / 2)
      cases i with
      | zero =>
        rw [List.getD_eq_getElem?_getD, List.getElem?_append_right (by omega)]
        simp [hp, hl]
      | succ i =>
        rw [List.getD_eq_getElem?_getD, List.getElem?_append_left (by omega), ← List.getD_eq_getElem?_getD]
        rw [show n.log2 - (i + 1) = (n / 2).log2 - i by omega, ih (n / 2) (by omega) (by omega) i (by omega), Nat.div_div_eq_div_mul, Nat.pow_succ, Nat.mul_comm]

/-- the nodes from one up to the root -/
def ups (n : Nat) : List Nat := (pth n).reverse
theorem ups_length (n : Nat) : (ups n).length = n.log2 + 1 := by simp [ups, pth_length]
theorem ups_get {n k : Nat} (h1 : 1 ≤ n) (h : k ≤ n.log2) : (ups n).getD k 0 = n / 2 ^ k := by
  rw [← pth_get n h1 k h, ups, List.getD_eq_getElem?_getD, List.getElem?_reverse (by rw [pth_length]; omega), pth_length, ← List.getD_eq_getElem?_getD]
  congr 1

theorem half_pow (n k : Nat) : n / 2 ^ k / 2 = n / 2 ^ (k + 1) := by rw [Nat.div_div_eq_div_mul, Nat.pow_succ]
theorem half_pos {n k : Nat} (h1 : 1 ≤ n) : k ≤ n.log2 ↔ 1 ≤ n / 2 ^ k := by
  rw [Nat.le_log2 (by omega), Nat.le_div_iff_mul_le (Nat.two_pow_pos k), Nat.one_mul]

/-- has a tree so many levels, and a node -/
def lvE (l : Int) : Int := if 1 ≤ l ∧ l ≤ 14 then 0 else 2
def ndE (l n : Int) : Int := if (1 ≤ l ∧ l ≤ 14) ∧ 1 ≤ n ∧ n < 2 ^ l.toNat then 0 else 2
def szR (l : Int) : Int := if lvE l = 0 then 2 ^ l.toNat - 1 else 0
def lfE (l k : Int) : Int := if (1 ≤ l ∧ l ≤ 14) ∧ 0 ≤ k ∧ k < 2 ^ (l.toNat - 1) then 0 else 2
def lfR (l k : Int) : Int := if lfE l k = 0 then 2 ^ (l.toNat - 1) + k else 0
def dpR (l n : Int) : Int := if ndE l n = 0 then (n.toNat.log2 : Nat) else 0
def ptR (l n : Int) : List Int := if ndE l n = 0 then ints (pth n.toNat) else []
/-- the first leaf under a node, and how many -/
def fst (l n : Int) : Int := n * 2 ^ (l.toNat - 1 - n.toNat.log2) - 2 ^ (l.toNat - 1)
def cnt (l n : Int) : Int := 2 ^ (l.toNat - 1 - n.toNat.log2)
def unA (l n : Int) : Int := if ndE l n = 0 then fst l n else 0
def unB (l n : Int) : Int := if ndE l n = 0 then fst l n + cnt l n else 0
def spE (l : Int) : Int := if 1 ≤ l ∧ l ≤ 14 then (if l = 1 then 6 else 0) else 2
def spU (l : Int) : Int := if spE l = 0 then l / 2 else 0
def spL (l : Int) : Int := if spE l = 0 then (l + 1) / 2 else 0

theorem lvE_ok {l : Int} (h1 : 1 ≤ l) (h2 : l ≤ 14) : lvE l = 0 := by simp [lvE, h1, h2]
theorem lvE_no {l : Int} (h : l < 1 ∨ 14 < l) : lvE l = 2 := if_neg (by omega)
theorem lvE_zero {l : Int} (h : lvE l = 0) : 1 ≤ l ∧ l ≤ 14 := by
  unfold lvE at h; split at h
  · assumption
  · omega
theorem ndE_zero {l n : Int} (h : ndE l n = 0) : 1 ≤ l ∧ l ≤ 14 ∧ 1 ≤ n ∧ n < 2 ^ l.toNat := by
  unfold ndE at h; split at h
  · rename_i k; exact ⟨k.1.1, k.1.2, k.2⟩
  · omega
theorem ndE_ok {l n : Int} (h1 : 1 ≤ l) (h2 : l ≤ 14) (h3 : 1 ≤ n) (h4 : n < 2 ^ l.toNat) : ndE l n = 0 := by simp [ndE, h1, h2, h3, h4]
theorem ndE_cases (l n : Int) : ndE l n = 0 ∨ ndE l n = 2 := by unfold ndE; split <;> simp
theorem ndE_no {l n : Int} (h : ¬ ndE l n = 0) : ndE l n = 2 := (ndE_cases l n).resolve_left h
theorem lfE_cases (l n : Int) : lfE l n = 0 ∨ lfE l n = 2 := by unfold lfE; split <;> simp
theorem lfE_zero {l n : Int} (h : lfE l n = 0) : 1 ≤ l ∧ l ≤ 14 ∧ 0 ≤ n ∧ n < 2 ^ (l.toNat - 1) := by
  unfold lfE at h; split at h
  · rename_i k; exact ⟨k.1.1, k.1.2, k.2⟩
  · omega
end Go.Proofs.YtfmoghjddfjfmaaDoor
