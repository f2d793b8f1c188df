/- Walks of the functions of package heap, and of the references 01 and 16 beneath them. -/
import Derived.Test.YtfmoghjddfjfmaaDoorLib
namespace Go.Proofs.YtfmoghjddfjfmaaDoor
open Go.RowKit
set_option linter.unusedVariables false
set_option linter.unusedSimpArgs false

theorem pow_bd (n : Nat) (h : n ≤ 14) : 1 ≤ (2 : Int) ^ n ∧ (2 : Int) ^ n ≤ 16384 := by
  have h1 : (2 : Int) ^ n = ((2 ^ n : Nat) : Int) := by norm_cast
  have h2 : 2 ^ n ≤ 2 ^ 14 := Nat.pow_le_pow_right (by omega) h
  have h3 : 0 < 2 ^ n := Nat.two_pow_pos n
  rw [h1]; omega

theorem tree_ok (l : Int) (h1 : 1 ≤ l) (h2 : l ≤ 14) (w : World) :
    Calls Tryd.prog 46 #[.int .i64 l] w fun e w' => e = .returned (.int .i64 0) ∧ w = w' := by
  go_enter Tryd.func46, Tryd.ntmps46
  go_wp2
  all_goals (go_ret; exact ⟨rfl, rfl⟩)
theorem tree_err (l : Int) (h : l < 1 ∨ 14 < l) (w : World) :
    Calls Tryd.prog 46 #[.int .i64 l] w fun e w' => e = .returned (.int .i64 2) ∧ w = w' := by
  go_enter Tryd.func46, Tryd.ntmps46
  go_wp2
  all_goals (go_ret; exact ⟨rfl, rfl⟩)

theorem pow_bdI (l : Int) (h : l ≤ 14) : 1 ≤ (2 : Int) ^ l.toNat ∧ (2 : Int) ^ l.toNat ≤ 16384 := pow_bd _ (by omega)

theorem Size_ok (l : Int) (h1 : 1 ≤ l) (h2 : l ≤ 14) (w : World) :
    Calls Tryd.prog 56 #[.int .i64 l] w fun e w' => e = .returned (.tuple #[.int .i64 (2 ^ l.toNat - 1), .int .i64 0]) ∧ w = w' := by
  have hp := pow_bdI l h2
  obtain ⟨hp1, hp2⟩ := hp
  go_enter Tryd.func56, Tryd.ntmps56
  go_wp2_with (go_at_call 46; refine (tree_ok _ (by omega) (by omega) _).mono ?_; rintro e w' ⟨rfl, rfl⟩)
  go_ret2
  exact ⟨rfl, rfl⟩
theorem Size_err (l : Int) (h : l < 1 ∨ 14 < l) (w : World) :
    Calls Tryd.prog 56 #[.int .i64 l] w fun e w' => e = .returned (.tuple #[.int .i64 0, .int .i64 2]) ∧ w = w' := by
  go_enter Tryd.func56, Tryd.ntmps56
  go_wp2_with (go_at_call 46; refine (tree_err _ h _).mono ?_; rintro e w' ⟨rfl, rfl⟩)
  all_goals (go_ret2; exact ⟨rfl, rfl⟩)

theorem Split_ok (l : Int) (h1 : 2 ≤ l) (h2 : l ≤ 14) (w : World) :
    Calls Tryd.prog 52 #[.int .i64 l] w fun e w' => e = .returned (.tuple #[.int .i64 (l / 2), .int .i64 ((l + 1) / 2), .int .i64 0]) ∧ w = w' := by
  go_enter Tryd.func52, Tryd.ntmps52
  go_wp2_with (go_at_call 46; refine (tree_ok _ (by omega) (by omega) _).mono ?_; rintro e w' ⟨rfl, rfl⟩)
  go_ret3
  exact ⟨rfl, rfl⟩

end Go.Proofs.YtfmoghjddfjfmaaDoor
