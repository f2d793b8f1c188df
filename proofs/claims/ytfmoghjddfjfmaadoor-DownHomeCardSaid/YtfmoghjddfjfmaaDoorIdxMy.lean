/- Merged: IdxMay, IdxMayIx. -/
import Derived.Test.YtfmoghjddfjfmaaDoorIdxRd
import Derived.Test.YtfmoghjddfjfmaaDoorIdxFns
import Derived.Test.YtfmoghjddfjfmaaDoorHeapFirst
import Derived.BigRegion
import Derived.Deep.CutRange
import Derived.Deep.CutBlock
import Derived.Laws.StructEq
import Derived.Lib.QuietBelow
namespace Go.Proofs.YtfmoghjddfjfmaaDoor
set_option linter.unusedVariables false
set_option linter.unusedSimpArgs false
section
open Go.RowKit

theorem joinR_iff {m c am ac bm bc : Int} : joinR m c am ac bm bc = true ↔ 0 ≤ ac ∧ 0 ≤ bc ∧ ac ≤ c ∧ bc = c - ac ∧ m = abM am bm bc ∧ c = abC ac bc ∧ (ac = 0 ∨ bc = 0 ∨ am < bm) := by
  simp only [joinR, Bool.and_eq_true, Bool.or_eq_true, decide_eq_true_eq]
  constructor
  · rintro ⟨⟨⟨⟨⟨h1, h2⟩, h3⟩, h4⟩, h5, h6⟩, h7⟩
    exact ⟨h1, h2, h3, h4, h5, h6, by omega⟩
  · rintro ⟨h1, h2, h3, h4, h5, h6, h7⟩
    exact ⟨⟨⟨⟨⟨h1, h2⟩, h3⟩, h4⟩, h5, h6⟩, by omega⟩
theorem all_up {p : Nat → Bool} {k : Nat} (h : allFrom p 1 k = true) (hp : p (k + 1) = true) : allFrom p 1 (k + 1) = true := by
  rw [allFrom_iff] at h ⊢
  intro m h1 h2
  by_cases e : m = k + 1
  · rw [e]; exact hp
  · exact h m h1 (by omega)

end

section
open Go.RowKit

end
end Go.Proofs.YtfmoghjddfjfmaaDoor
