/- Small steps between worlds. -/
import Derived.Test.YtfmoghjddfjfmaaDoorLib
namespace Go.Proofs.YtfmoghjddfjfmaaDoor
open Go.RowKit
set_option linter.unusedVariables false
set_option linter.unusedSimpArgs false

theorem below_via {n m : Nat} {w W w' : World} (h : Below m W w') (h1 : Below n w W) (h2 : n ≤ m) : Below n w w' := h1.trans (h.mono h2)

theorem cell_setCell_block {w : World} {p q : Addr} {x v : Value} (h : w.cell? q = some v) (hne : q.block ≠ p.block) : (w.setCell p x).cell? q = some v := by
  rw [World.cell?_setCell_other _ _ _ _ (fun e => hne (by rw [e]))]; exact h
/-- a box of two cells that is written -/
theorem box2_stored {W : World} {b : Nat} {x y x' y' : Value} (h0 : W.cell? ⟨b, 0, none⟩ = some x') (h1 : W.cell? ⟨b, 1, none⟩ = some y') :
    ((W.setCell ⟨b, 0, none⟩ x).setCell ⟨b, 1, none⟩ y).cell? ⟨b, 0, none⟩ = some x ∧ ((W.setCell ⟨b, 0, none⟩ x).setCell ⟨b, 1, none⟩ y).cell? ⟨b, 1, none⟩ = some y := by
  refine ⟨?_, World.cell?_setCell_same _ _ _ (u := y') ?_⟩
  · rw [World.cell?_setCell_other _ _ _ _ (by intro e; simp at e)]; exact World.cell?_setCell_same _ _ _ h0
  · rw [World.cell?_setCell_other _ _ _ _ (by intro e; simp at e)]; exact h1
/-- two boxes of two cells that are written -/
theorem box22_stored {W : World} {b c : Nat} {x y z t x' y' z' t' : Value} (h0 : W.cell? ⟨b, 0, none⟩ = some x') (h1 : W.cell? ⟨b, 1, none⟩ = some y') (k0 : W.cell? ⟨c, 0, none⟩ = some z') (k1 : W.cell? ⟨c, 1, none⟩ = some t') (hne : b ≠ c) :
    ((((W.setCell ⟨b, 0, none⟩ x).setCell ⟨b, 1, none⟩ y).setCell ⟨c, 0, none⟩ z).setCell ⟨c, 1, none⟩ t).cell? ⟨b, 0, none⟩ = some x ∧ ((((W.setCell ⟨b, 0, none⟩ x).setCell ⟨b, 1, none⟩ y).setCell ⟨c, 0, none⟩ z).setCell ⟨c, 1, none⟩ t).cell? ⟨b, 1, none⟩ = some y ∧
    ((((W.setCell ⟨b, 0, none⟩ x).setCell ⟨b, 1, none⟩ y).setCell ⟨c, 0, none⟩ z).setCell ⟨c, 1, none⟩ t).cell? ⟨c, 0, none⟩ = some z ∧ ((((W.setCell ⟨b, 0, none⟩ x).setCell ⟨b, 1, none⟩ y).setCell ⟨c, 0, none⟩ z).setCell ⟨c, 1, none⟩ t).cell? ⟨c, 1, none⟩ = some t := by
  obtain ⟨a0, a1⟩ := box2_stored (x := x) (y := y) h0 h1
  obtain ⟨b0, b1⟩ := box2_stored (x := z) (y := t) (cell_setCell_block (cell_setCell_block k0 (fun e => hne e.symm) (p := ⟨b, 0, none⟩) (x := x)) (fun e => hne e.symm) (p := ⟨b, 1, none⟩) (x := y)) (cell_setCell_block (cell_setCell_block k1 (fun e => hne e.symm) (p := ⟨b, 0, none⟩) (x := x)) (fun e => hne e.symm) (p := ⟨b, 1, none⟩) (x := y))
  exact ⟨cell_setCell_block (cell_setCell_block a0 hne) hne, cell_setCell_block (cell_setCell_block a1 hne) hne, b0, b1⟩
end Go.Proofs.YtfmoghjddfjfmaaDoor
