/- Walks of package heap: nodes; bits.Len. -/
import Derived.Test.YtelckhfmchnpnaaDoorHeap
import Derived.Test.YtelckhfmchnpnaaDoorHeapPlain
import Derived.Test.YtelckhfmchnpnaaDoorRange
import Derived.Lib.BitFns
namespace Go.Proofs.YtelckhfmchnpnaaDoor
open Go.RowKit Go.Shelf
attribute [local go_sem] Oper.semAt_some
set_option linter.unusedVariables false
set_option linter.unusedSimpArgs false

theorem bitLen_log2 (n : Nat) (h1 : 1 ≤ n) (h : n < 2 ^ 64) : Lib.bitLen n = n.log2 + 1 := by
  induction n using Nat.strongRecOn with
  | ind n ih =>
    rw [Lib.bitLen_half n (by omega) h]
    by_cases h2 : 2 ≤ n
    · rw [ih (n / 2) (by omega) (by omega) (by omega), log2_two h2]; omega
    · obtain rfl : n = 1 := by omega
      rfl

end Go.Proofs.YtelckhfmchnpnaaDoor
