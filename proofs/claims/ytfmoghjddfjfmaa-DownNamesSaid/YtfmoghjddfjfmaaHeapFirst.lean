/- The walk of the reference 16: First. -/
import Derived.Test.YtfmoghjddfjfmaaHeap
import Derived.Test.YtfmoghjddfjfmaaHeapPlain
namespace Go.Proofs.Ytfmoghjddfjfmaa
open Go.RowKit
set_option linter.unusedVariables false
set_option linter.unusedSimpArgs false

theorem First_ok (l : Int) (h1 : 1 ≤ l) (h2 : l ≤ 14) (w : World) :
    Calls Try.prog 41 #[.int .i64 l] w fun e w' => e = .returned (.int .i64 (2 ^ (l.toNat - 1))) ∧ w = w' := by
  have e : (l - 1).toNat = l.toNat - 1 := by omega
  have E := Lib.hid (fun w => Pow_ok (l - 1) (by omega) (by omega) w)
  rw [e] at E
  clear e
  go_enter Try.func41, Try.ntmps41
  go_wp2_with fail
  refine (E.out _).mono ?_
  rintro e w' ⟨rfl, rfl⟩
  go_wp2
  go_ret
  exact ⟨rfl, rfl⟩

end Go.Proofs.Ytfmoghjddfjfmaa
