/- Walks of the functions of package heap, and of the references 01 and 16 beneath them. -/
import Derived.Test.YtfmoghjddfjfmaaLib
namespace Go.Proofs.Ytfmoghjddfjfmaa
open Go.RowKit
set_option linter.unusedVariables false
set_option linter.unusedSimpArgs false

theorem pow_bd (n : Nat) (h : n ≤ 14) : 1 ≤ (2 : Int) ^ n ∧ (2 : Int) ^ n ≤ 16384 := by
  have h1 : (2 : Int) ^ n = ((2 ^ n : Nat) : Int) := by norm_cast
  have h2 : 2 ^ n ≤ 2 ^ 14 := Nat.pow_le_pow_right (by omega) h
  have h3 : 0 < 2 ^ n := Nat.two_pow_pos n
  rw [h1]; omega

theorem tree_ok (l : Int) (h1 : 1 ≤ l) (h2 : l ≤ 14) (w : World) :
    Calls Try.prog 35 #[.int .i64 l] w fun e w' => e = .returned (.int .i64 0) ∧ w = w' := by
  go_enter Try.func35, Try.ntmps35
  go_wp2
  all_goals (go_ret; exact ⟨rfl, rfl⟩)
theorem tree_err (l : Int) (h : l < 1 ∨ 14 < l) (w : World) :
    Calls Try.prog 35 #[.int .i64 l] w fun e w' => e = .returned (.int .i64 2) ∧ w = w' := by
  go_enter Try.func35, Try.ntmps35
  go_wp2
  all_goals (go_ret; exact ⟨rfl, rfl⟩)

theorem pow_bdI (l : Int) (h : l ≤ 14) : 1 ≤ (2 : Int) ^ l.toNat ∧ (2 : Int) ^ l.toNat ≤ 16384 := pow_bd _ (by omega)

theorem Size_ok (l : Int) (h1 : 1 ≤ l) (h2 : l ≤ 14) (w : World) :
    Calls Try.prog 59 #[.int .i64 l] w fun e w' => e = .returned (.tuple #[.int .i64 (2 ^ l.toNat - 1), .int .i64 0]) ∧ w = w' := by
  have hp := pow_bdI l h2
  obtain ⟨hp1, hp2⟩ := hp
  go_enter Try.func59, Try.ntmps59
  go_wp2_with (go_at_call 35; refine (tree_ok _ (by omega) (by omega) _).mono ?_; rintro e w' ⟨rfl, rfl⟩)
  go_ret2
  exact ⟨rfl, rfl⟩
theorem Size_err (l : Int) (h : l < 1 ∨ 14 < l) (w : World) :
    Calls Try.prog 59 #[.int .i64 l] w fun e w' => e = .returned (.tuple #[.int .i64 0, .int .i64 2]) ∧ w = w' := by
  go_enter Try.func59, Try.ntmps59
  go_wp2_with (go_at_call 35; refine (tree_err _ h _).mono ?_; rintro e w' ⟨rfl, rfl⟩)
  all_goals (go_ret2; exact ⟨rfl, rfl⟩)

theorem Split_ok (l : Int) (h1 : 2 ≤ l) (h2 : l ≤ 14) (w : World) :
    Calls Try.prog 49 #[.int .i64 l] w fun e w' => e = .returned (.tuple #[.int .i64 (l / 2), .int .i64 ((l + 1) / 2), .int .i64 0]) ∧ w = w' := by
  go_enter Try.func49, Try.ntmps49
  go_wp2_with (go_at_call 35; refine (tree_ok _ (by omega) (by omega) _).mono ?_; rintro e w' ⟨rfl, rfl⟩)
  go_ret3
  exact ⟨rfl, rfl⟩

theorem Pow_ok (k : Int) (h0 : 0 ≤ k) (hk : k ≤ 14) (w : World) :
    Calls Try.prog 60 #[.int .i64 k] w fun e w' => e = .returned (.int .i64 (2 ^ k.toNat)) ∧ w = w' := by
  go_enter Try.func60, Try.ntmps60
  go_wp2
  go_loop [3, 4] (fun p i => ∃ j : Nat, (j : Int) ≤ k ∧ i = .int .i64 j ∧ p = .int .i64 (2 ^ j)) (fun _ i => (k - intOf i).toNat)
  case atStart => exact ⟨0, by omega, rfl, rfl⟩
  case round =>
    obtain ⟨j, hj, rfl, rfl⟩ := hrel
    obtain ⟨hb1, hb2⟩ := pow_bd j (by omega)
    by_cases h : (j : Int) < k
    · go_wp2
      go_round
      case rel => exact ⟨j+1, by omega, by go_num, by rw [Int.pow_succ, Int.mul_comm]⟩
      case measure => simp [intOf]; omega
    · go_wp2
      go_ret
      exact ⟨ret_int (by rw [show k.toNat = j by omega]), rfl⟩

theorem Many16_ok (l : Int) (h0 : 0 ≤ l) (h2 : l ≤ 14) (w : World) :
    Calls Try.prog 39 #[.int .i64 l] w fun e w' => e = .returned (.int .i64 (2 ^ l.toNat - 1)) ∧ w = w' := by
  obtain ⟨hp1, hp2⟩ := pow_bdI l h2
  go_enter Try.func39, Try.ntmps39
  go_wp2_with (go_at_call 60; refine (Pow_ok _ (by omega) (by omega) _).mono ?_; rintro e w' ⟨rfl, rfl⟩)
  go_ret
  exact ⟨rfl, rfl⟩

theorem Is16_yes (l : Int) (h1 : 1 ≤ l) (h2 : l ≤ 14) (w : World) :
    Calls Try.prog 38 #[.int .i64 l] w fun e w' => e = .returned (.bool true) ∧ w = w' := by
  go_enter Try.func38, Try.ntmps38
  go_wp2
  all_goals (go_ret; first | exact ⟨rfl, rfl⟩ | exact ⟨by simp; omega, rfl⟩)
theorem Is16_no (l : Int) (h : l < 1 ∨ 14 < l) (w : World) :
    Calls Try.prog 38 #[.int .i64 l] w fun e w' => e = .returned (.bool false) ∧ w = w' := by
  go_enter Try.func38, Try.ntmps38
  go_wp2
  all_goals (go_ret; first | exact ⟨rfl, rfl⟩ | exact ⟨by simp; omega, rfl⟩)
end Go.Proofs.Ytfmoghjddfjfmaa
