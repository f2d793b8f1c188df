/- Rows whose elements are two or three numbers, written in place. No function of the program is walked here. -/
import Derived.Test.YtookgoidlnlckaaRowAll
namespace Go.Proofs.Ytookgoidlnlckaa
open Go.RowKit
set_option linter.unusedVariables false
set_option linter.unusedSimpArgs false

variable {a b c a' b' c' : Nat → Int} {M i : Nat} {v : Int}
theorem set_getD {xs : List Int} {j k : Nat} {v : Int} (hk : k < xs.length) : (xs.set j v).getD k 0 = if j = k then v else xs.getD k 0 := by
  simp only [List.getD_eq_getElem?_getD, List.getElem?_set]
  by_cases e : j = k
  · subst e; simp [hk]
  · simp [e]
/-- one cell of an owned row of numbers, whatever the size of its elements -/
theorem own_cell {k : IntKind} {w : World} {B g n cap s : Nat} {e : TypeId} {xs : List Int} (h : w.ownsRow B e s (.slice (some ⟨g, 0, none⟩) n cap) n (xs.map (Value.int k))) {j : Nat} (hj : j < xs.length) :
    w.cell? ⟨g, j, none⟩ = some (.int k (xs.getD j 0)) ∧ w.frozen? ⟨g, j, none⟩ = false := by
  have hl : xs.length = n * s := by have := h.1; simpa using this
  refine ⟨?_, h.frozenAt j⟩
  rw [h.cellAt j (by omega), List.getElem?_map, List.getElem?_eq_getElem hj]
  simp [List.getD_eq_getElem?_getD, hj]
theorem own_set {k : IntKind} {w : World} {B g n cap s : Nat} {e : TypeId} {xs : List Int} (h : w.ownsRow B e s (.slice (some ⟨g, 0, none⟩) n cap) n (xs.map (Value.int k))) (j : Nat) (y : Int) :
    (w.setCell ⟨g, j, none⟩ (.int k y)).ownsRow B e s (.slice (some ⟨g, 0, none⟩) n cap) n ((xs.set j y).map (Value.int k)) := by
  have := (h.stored j (.int k y)).1
  rw [List.map_set]
  exact this
end Go.Proofs.Ytookgoidlnlckaa
