/- Walks of heap.Size and Split. -/
import Derived.Test.YtfmoghjddfjfmaaHeapUp
namespace Go.Proofs.Ytfmoghjddfjfmaa
open Go.RowKit Go.Shelf
attribute [local go_sem] Oper.semAt_some
set_option linter.unusedVariables false
set_option linter.unusedSimpArgs false

/-- a call that answers a known value and leaves all that was there alone -/
def Gives (w : World) (v : Value) (e : Ending) (w' : World) : Prop := e = .returned v ∧ Below w.heap.size w w'

theorem Size_any (l : Int) (w : World) :
    Calls Try.prog 59 #[.int .i64 l] w fun e w' => e = .returned (.tuple #[.int .i64 (szR l), .int .i64 (lvE l)]) ∧ w = w' := by
  by_cases h : 1 ≤ l ∧ l ≤ 14
  · rw [szR, lvE_ok h.1 h.2]; exact Size_ok l h.1 h.2 w
  · rw [szR, lvE_no (by omega)]; exact Size_err l (by omega) w
theorem Split_any (l : Int) (w : World) :
    Calls Try.prog 49 #[.int .i64 l] w fun e w' => e = .returned (.tuple #[.int .i64 (spU l), .int .i64 (spL l), .int .i64 (spE l)]) ∧ w = w' := by
  by_cases hl : 1 ≤ l ∧ l ≤ 14
  · by_cases h1 : l = 1
    · subst h1
      have hv : spE 1 = 6 := by simp [spE]
      rw [spU, spL, hv]
      clear hv hl
      go_enter Try.func49, Try.ntmps49
      go_wp2_with (go_at_call 35; refine (tree_ok _ (by omega) (by omega) _).mono ?_; rintro e w' ⟨rfl, rfl⟩)
      go_ret3
      exact ⟨rfl, rfl⟩
    · have hv : spE l = 0 := by simp [spE, hl, h1]
      rw [spU, spL, hv]
      exact Split_ok l (by omega) (by omega) w
  · have hv : spE l = 2 := by simp [spE, hl]
    rw [spU, spL, hv]
    clear hv
    go_enter Try.func49, Try.ntmps49
    go_wp2_with (go_at_call 35; refine (tree_err _ (by omega) _).mono ?_; rintro e w' ⟨rfl, rfl⟩)
    go_ret3
    exact ⟨rfl, rfl⟩
end Go.Proofs.Ytfmoghjddfjfmaa
