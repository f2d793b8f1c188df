/- Merged: Seek, Ref10. -/
import Derived.Test.YtjhpblejlchhjaaGreatOfMy
namespace Go.Proofs.YtjhpblejlchhjaaGreat
set_option maxRecDepth 100000
set_option maxHeartbeats 4000000
set_option linter.unusedVariables false
set_option linter.unusedSimpArgs false
section
open Go.RowKit

theorem pr_get {l : List (Int × Int)} {W : World} {a : Option Addr} (h : IsRow .i64 W a (prI l)) {i : Nat} (hi : i < l.length) :
    ∃ b off, a = some ⟨b, off, none⟩ ∧ W.cell? ⟨b, off + i * 2, none⟩ = some (.int .i64 (l.getD i (0, 0)).1) ∧ W.cell? ⟨b, off + i * 2 + 1, none⟩ = some (.int .i64 (l.getD i (0, 0)).2) ∧ b < W.heap.size := by
  obtain ⟨g1, g2⟩ := prI_get hi
  obtain ⟨b, off, x, y, e, hx, hy, c1, c2, hb⟩ := h.get2 (i := i) (by rw [prI_length]; omega)
  rw [← hx.out, g1] at c1
  rw [← hy.out, g2] at c2
  exact ⟨b, off, e, c1, c2, hb⟩

end

section
open Go.RowKit

end
end Go.Proofs.YtjhpblejlchhjaaGreat
