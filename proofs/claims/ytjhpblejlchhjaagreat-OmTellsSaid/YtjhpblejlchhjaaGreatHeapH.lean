/- Merged: Heap, HeapPlain, HeapFirst. -/
import Derived.Test.YtjhpblejlchhjaaGreatMLS
namespace Go.Proofs.YtjhpblejlchhjaaGreat
set_option maxRecDepth 100000
set_option maxHeartbeats 4000000
set_option linter.unusedVariables false
set_option linter.unusedSimpArgs false
section
open Go.RowKit

end

section
open Go.RowKit

theorem log2_two {n : Nat} (h : 2 ≤ n) : n.log2 = (n / 2).log2 + 1 := by rw [Nat.log2_def]; simp [h]
theorem log2_one {n : Nat} (h : n ≤ 1) : n.log2 = 0 := by rw [Nat.log2_def]; simp [show ¬ 2 ≤ n by omega]
def cnt (l n : Int) : Int := 2 ^ (l.toNat - 1 - n.toNat.log2)
end

section
open Go.RowKit

end
end Go.Proofs.YtjhpblejlchhjaaGreat
