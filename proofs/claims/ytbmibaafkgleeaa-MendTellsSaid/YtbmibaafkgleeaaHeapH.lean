/- Merged: Heap, HeapPlain, HeapFirst. -/
import Derived.Test.YtbmibaafkgleeaaLib
namespace Go.Proofs.Ytbmibaafkgleeaa
set_option linter.unusedVariables false
set_option linter.unusedSimpArgs false
section
open Go.RowKit

theorem pow_bd (n : Nat) (h : n ≤ 14) : 1 ≤ (2 : Int) ^ n ∧ (2 : Int) ^ n ≤ 16384 := by
  have h1 : (2 : Int) ^ n = ((2 ^ n : Nat) : Int) := by norm_cast
  have h2 : 2 ^ n ≤ 2 ^ 14 := Nat.pow_le_pow_right (by omega) h
  have h3 : 0 < 2 ^ n := Nat.two_pow_pos n
  rw [h1]; omega

theorem tree_ok (l : Int) (h1 : 1 ≤ l) (h2 : l ≤ 14) (w : World) :
    Calls Try.prog 73 #[.int .i64 l] w fun e w' => e = .returned (.int .i64 0) ∧ w = w' := by
  go_enter Try.func73, Try.ntmps73
  go_wp2
  all_goals (go_ret; exact ⟨rfl, rfl⟩)
theorem tree_err (l : Int) (h : l < 1 ∨ 14 < l) (w : World) :
    Calls Try.prog 73 #[.int .i64 l] w fun e w' => e = .returned (.int .i64 2) ∧ w = w' := by
  go_enter Try.func73, Try.ntmps73
  go_wp2
  all_goals (go_ret; exact ⟨rfl, rfl⟩)

theorem pow_bdI (l : Int) (h : l ≤ 14) : 1 ≤ (2 : Int) ^ l.toNat ∧ (2 : Int) ^ l.toNat ≤ 16384 := pow_bd _ (by omega)

theorem Size_ok (l : Int) (h1 : 1 ≤ l) (h2 : l ≤ 14) (w : World) :
    Calls Try.prog 104 #[.int .i64 l] w fun e w' => e = .returned (.tuple #[.int .i64 (2 ^ l.toNat - 1), .int .i64 0]) ∧ w = w' := by
  have hp := pow_bdI l h2
  obtain ⟨hp1, hp2⟩ := hp
  go_enter Try.func104, Try.ntmps104
  go_wp2_with (go_at_call 73; refine (tree_ok _ (by omega) (by omega) _).mono ?_; rintro e w' ⟨rfl, rfl⟩)
  go_ret2
  exact ⟨rfl, rfl⟩
theorem Size_err (l : Int) (h : l < 1 ∨ 14 < l) (w : World) :
    Calls Try.prog 104 #[.int .i64 l] w fun e w' => e = .returned (.tuple #[.int .i64 0, .int .i64 2]) ∧ w = w' := by
  go_enter Try.func104, Try.ntmps104
  go_wp2_with (go_at_call 73; refine (tree_err _ h _).mono ?_; rintro e w' ⟨rfl, rfl⟩)
  all_goals (go_ret2; exact ⟨rfl, rfl⟩)

theorem Split_ok (l : Int) (h1 : 2 ≤ l) (h2 : l ≤ 14) (w : World) :
    Calls Try.prog 106 #[.int .i64 l] w fun e w' => e = .returned (.tuple #[.int .i64 (l / 2), .int .i64 ((l + 1) / 2), .int .i64 0]) ∧ w = w' := by
  go_enter Try.func106, Try.ntmps106
  go_wp2_with (go_at_call 73; refine (tree_ok _ (by omega) (by omega) _).mono ?_; rintro e w' ⟨rfl, rfl⟩)
  go_ret3
  exact ⟨rfl, rfl⟩

theorem Pow_ok (k : Int) (h0 : 0 ≤ k) (hk : k ≤ 14) (w : World) :
    Calls Try.prog 85 #[.int .i64 k] w fun e w' => e = .returned (.int .i64 (2 ^ k.toNat)) ∧ w = w' := by
  go_enter Try.func85, Try.ntmps85
  go_wp2
  go_loop [3, 4] (fun p i => ∃ j : Nat, (j : Int) ≤ k ∧ i = .int .i64 j ∧ p = .int .i64 (2 ^ j)) (fun _ i => (k - intOf i).toNat)
  case atStart => exact ⟨0, by omega, rfl, rfl⟩
  case round =>
    obtain ⟨j, hj, rfl, rfl⟩ := hrel
    obtain ⟨hb1, hb2⟩ := pow_bd j (by omega)
    by_cases h : (j : Int) < k
    · go_wp2
      go_round
      case rel => exact ⟨j+1, by omega, by go_num, by rw [Int.pow_succ, Int.mul_comm]⟩
      case measure => simp [intOf]; omega
    · go_wp2
      go_ret
      exact ⟨ret_int (by rw [show k.toNat = j by omega]), rfl⟩

theorem Many16_ok (l : Int) (h0 : 0 ≤ l) (h2 : l ≤ 14) (w : World) :
    Calls Try.prog 81 #[.int .i64 l] w fun e w' => e = .returned (.int .i64 (2 ^ l.toNat - 1)) ∧ w = w' := by
  obtain ⟨hp1, hp2⟩ := pow_bdI l h2
  go_enter Try.func81, Try.ntmps81
  go_wp2_with (go_at_call 85; refine (Pow_ok _ (by omega) (by omega) _).mono ?_; rintro e w' ⟨rfl, rfl⟩)
  go_ret
  exact ⟨rfl, rfl⟩

theorem Is16_yes (l : Int) (h1 : 1 ≤ l) (h2 : l ≤ 14) (w : World) :
    Calls Try.prog 80 #[.int .i64 l] w fun e w' => e = .returned (.bool true) ∧ w = w' := by
  go_enter Try.func80, Try.ntmps80
  go_wp2
  all_goals (go_ret; first | exact ⟨rfl, rfl⟩ | exact ⟨by simp; omega, rfl⟩)
theorem Is16_no (l : Int) (h : l < 1 ∨ 14 < l) (w : World) :
    Calls Try.prog 80 #[.int .i64 l] w fun e w' => e = .returned (.bool false) ∧ w = w' := by
  go_enter Try.func80, Try.ntmps80
  go_wp2
  all_goals (go_ret; first | exact ⟨rfl, rfl⟩ | exact ⟨by simp; omega, rfl⟩)
end

section
open Go.RowKit

/-- the nodes from the root down to one -/
def pth (n : Nat) : List Nat := if h : n ≤ 1 then [1] else pth (n / 2) ++ [n]
termination_by n
decreasing_by omega
theorem pth_one {n : Nat} (h : n ≤ 1) : pth n = [1] := by rw [pth]; simp [h]
theorem pth_two {n : Nat} (h : 2 ≤ n) : pth n = pth (n / 2) ++ [n] := by rw [pth]; simp [show ¬ n ≤ 1 by omega]

theorem log2_two {n : Nat} (h : 2 ≤ n) : n.log2 = (n / 2).log2 + 1 := by rw [Nat.log2_def]; simp [h]
theorem log2_one {n : Nat} (h : n ≤ 1) : n.log2 = 0 := by rw [Nat.log2_def]; simp [show ¬ 2 ≤ n by omega]
theorem log2_lt_of {n k : Nat} (h1 : 1 ≤ n) (h : n < 2 ^ k) : n.log2 < k := (Nat.log2_lt (by omega)).2 h
theorem pth_length (n : Nat) : (pth n).length = n.log2 + 1 := by
  induction n using Nat.strongRecOn with
  | ind n ih =>
    by_cases h : n ≤ 1
    · rw [pth_one h, log2_one h]; rfl
    · rw [pth_two (by omega), log2_two (by omega), List.length_append, ih (n / 2) (by omega)]; rfl

/-- the i-th node of a path, from below: n halved i times -/
theorem pth_get (n : Nat) (h1 : 1 ≤ n) : ∀ i, i ≤ n.log2 → (pth n).getD (n.log2 - i) 0 = n / 2 ^ i := by
  induction n using Nat.strongRecOn with
  | ind n ih =>
    intro i hi
    by_cases h : n ≤ 1
    · have h0 := log2_one h
      obtain rfl : i = 0 := by omega
      obtain rfl : n = 1 := by omega
      rw [pth_one h, h0]; rfl
    · rw [pth_two (by omega)]
      have hl := log2_two (n := n) (by omega)
      have hp := pth_length (n / 2)
      cases i with
      | zero =>
        rw [List.getD_eq_getElem?_getD, List.getElem?_append_right (by omega)]
        simp [hp, hl]
      | succ i =>
        rw [List.getD_eq_getElem?_getD, List.getElem?_append_left (by omega), ← List.getD_eq_getElem?_getD]
        rw [show n.log2 - (i + 1) = (n / 2).log2 - i by omega, ih (n / 2) (by omega) (by omega) i (by omega), Nat.div_div_eq_div_mul, Nat.pow_succ, Nat.mul_comm]

/-- the nodes from one up to the root -/
def ups (n : Nat) : List Nat := (pth n).reverse
theorem ups_length (n : Nat) : (ups n).length = n.log2 + 1 := by simp [ups, pth_length]
theorem ups_get {n k : Nat} (h1 : 1 ≤ n) (h : k ≤ n.log2) : (ups n).getD k 0 = n / 2 ^ k := by
  rw [← pth_get n h1 k h, ups, List.getD_eq_getElem?_getD, List.getElem?_reverse (by rw [pth_length]; omega), pth_length, ← List.getD_eq_getElem?_getD]
  congr 1

theorem half_pow (n k : Nat) : n / 2 ^ k / 2 = n / 2 ^ (k + 1) := by rw [Nat.div_div_eq_div_mul, Nat.pow_succ]
theorem half_pos {n k : Nat} (h1 : 1 ≤ n) : k ≤ n.log2 ↔ 1 ≤ n / 2 ^ k := by
  rw [Nat.le_log2 (by omega), Nat.le_div_iff_mul_le (Nat.two_pow_pos k), Nat.one_mul]

def ndE (l n : Int) : Int := if (1 ≤ l ∧ l ≤ 14) ∧ 1 ≤ n ∧ n < 2 ^ l.toNat then 0 else 2
def lfE (l k : Int) : Int := if (1 ≤ l ∧ l ≤ 14) ∧ 0 ≤ k ∧ k < 2 ^ (l.toNat - 1) then 0 else 2
def lfR (l k : Int) : Int := if lfE l k = 0 then 2 ^ (l.toNat - 1) + k else 0
def dpR (l n : Int) : Int := if ndE l n = 0 then (n.toNat.log2 : Nat) else 0
/-- the first leaf under a node, and how many -/
def fst (l n : Int) : Int := n * 2 ^ (l.toNat - 1 - n.toNat.log2) - 2 ^ (l.toNat - 1)
def cnt (l n : Int) : Int := 2 ^ (l.toNat - 1 - n.toNat.log2)
def unA (l n : Int) : Int := if ndE l n = 0 then fst l n else 0
def unB (l n : Int) : Int := if ndE l n = 0 then fst l n + cnt l n else 0
theorem ndE_zero {l n : Int} (h : ndE l n = 0) : 1 ≤ l ∧ l ≤ 14 ∧ 1 ≤ n ∧ n < 2 ^ l.toNat := by
  unfold ndE at h; split at h
  · rename_i k; exact ⟨k.1.1, k.1.2, k.2⟩
  · omega
theorem ndE_ok {l n : Int} (h1 : 1 ≤ l) (h2 : l ≤ 14) (h3 : 1 ≤ n) (h4 : n < 2 ^ l.toNat) : ndE l n = 0 := by simp [ndE, h1, h2, h3, h4]
theorem ndE_cases (l n : Int) : ndE l n = 0 ∨ ndE l n = 2 := by unfold ndE; split <;> simp
theorem ndE_no {l n : Int} (h : ¬ ndE l n = 0) : ndE l n = 2 := (ndE_cases l n).resolve_left h
end

section
open Go.RowKit

theorem First_ok (l : Int) (h1 : 1 ≤ l) (h2 : l ≤ 14) (w : World) :
    Calls Try.prog 45 #[.int .i64 l] w fun e w' => e = .returned (.int .i64 (2 ^ (l.toNat - 1))) ∧ w = w' := by
  have e : (l - 1).toNat = l.toNat - 1 := by omega
  have E := Lib.hid (fun w => Pow_ok (l - 1) (by omega) (by omega) w)
  rw [e] at E
  clear e
  go_enter Try.func45, Try.ntmps45
  go_wp2_with fail
  refine (E.out _).mono ?_
  rintro e w' ⟨rfl, rfl⟩
  go_wp2
  go_ret
  exact ⟨rfl, rfl⟩
end
end Go.Proofs.Ytbmibaafkgleeaa
