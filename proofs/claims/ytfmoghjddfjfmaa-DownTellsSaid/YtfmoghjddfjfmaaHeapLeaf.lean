/- The walk of heap.Leaf. -/
import Derived.Test.YtfmoghjddfjfmaaHeapFns
namespace Go.Proofs.Ytfmoghjddfjfmaa
open Go.RowKit Go.Shelf
attribute [local go_sem] Oper.semAt_some
set_option linter.unusedVariables false
set_option linter.unusedSimpArgs false

theorem toNat_pred (l : Int) : (l - 1).toNat = l.toNat - 1 := by omega
theorem Leaf_any (l k : Int) (w : World) :
    Calls Try.prog 20 #[.int .i64 l, .int .i64 k] w fun e w' => e = .returned (.tuple #[.int .i64 (lfR l k), .int .i64 (lfE l k)]) ∧ w = w' := by
  by_cases hl : 1 ≤ l ∧ l ≤ 14
  · obtain ⟨h1, h2⟩ := hl
    obtain ⟨hp1, hp2⟩ := pow_bd (l.toNat - 1) (by omega)
    by_cases hc : 0 ≤ k ∧ k < 2 ^ (l.toNat - 1)
    · obtain ⟨hk, hm⟩ := hc
      have hv : lfE l k = 0 := by simp only [lfE, h1, h2, hk, hm, and_self, if_true]
      have hr : lfR l k = 2 ^ (l.toNat - 1) + k := by rw [lfR, hv]; rfl
      rw [hv, hr]
      clear hv hr
      go_enter Try.func20, Try.ntmps20
      go_wp2_with (go_at_call 35; refine (tree_ok _ h1 h2 _).mono ?_; rintro e w' ⟨rfl, rfl⟩)
      go_ret2
      exact ⟨rfl, rfl⟩
    · have hv : lfE l k = 2 := by simp only [lfE, hc, and_false, if_false]
      have hr : lfR l k = 0 := by rw [lfR, hv]; rfl
      rw [hv, hr]
      clear hv hr
      have hsp : k < 0 ∨ (0 ≤ k ∧ 2 ^ (l.toNat - 1) ≤ k) := by omega
      clear hc
      rcases hsp with hk | ⟨hk, hm⟩
      all_goals
        go_enter Try.func20, Try.ntmps20
        go_wp2_with (go_at_call 35; refine (tree_ok _ h1 h2 _).mono ?_; rintro e w' ⟨rfl, rfl⟩)
        go_ret2
        exact ⟨rfl, rfl⟩
  · have hv : lfE l k = 2 := by simp only [lfE, hl, false_and, if_false]
    have hr : lfR l k = 0 := by rw [lfR, hv]; rfl
    rw [hv, hr]
    clear hv hr
    go_enter Try.func20, Try.ntmps20
    go_wp2_with (go_at_call 35; refine (tree_err _ (by omega) _).mono ?_; rintro e w' ⟨rfl, rfl⟩)
    go_ret2
    exact ⟨rfl, rfl⟩

end Go.Proofs.Ytfmoghjddfjfmaa
