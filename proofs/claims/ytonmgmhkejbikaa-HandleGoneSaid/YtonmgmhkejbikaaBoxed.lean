/- Boxes that are known, cell by cell, in a world that goes on. -/
import Derived.Test.YtonmgmhkejbikaaRange
import Derived.Test.YtonmgmhkejbikaaStep
namespace Go.Proofs.Ytonmgmhkejbikaa
open Go.RowKit
set_option linter.unusedVariables false
set_option linter.unusedSimpArgs false

/-- cells that hold this and may be written -/
def Boxed (W : World) (l : List (Nat × Nat × Value)) : Prop := ∀ b o v, (b, o, v) ∈ l → W.cell? ⟨b, o, none⟩ = some v ∧ W.frozen? ⟨b, o, none⟩ = false
theorem Boxed.cell {W : World} {l : List (Nat × Nat × Value)} (h : Boxed W l) (b o : Nat) (v : Value) (hm : (b, o, v) ∈ l) : W.cell? ⟨b, o, none⟩ = some v := (h b o v hm).1
theorem Boxed.frozen {W : World} {l : List (Nat × Nat × Value)} (h : Boxed W l) (b o : Nat) (v : Value) (hm : (b, o, v) ∈ l) : W.frozen? ⟨b, o, none⟩ = false := (h b o v hm).2
theorem Boxed.calm {W W' : World} {l : List (Nat × Nat × Value)} {B : Nat} (h : Boxed W l) (hc : Calm B W W') : Boxed W' l :=
  fun b o v hm => ⟨hc.cell (h b o v hm).1, hc.frozen (h b o v hm).1 (h b o v hm).2⟩
theorem Boxed.below {W W' : World} {l : List (Nat × Nat × Value)} (h : Boxed W l) (hb : Below W.heap.size W W') : Boxed W' l :=
  fun b o v hm => ⟨(hb.cell (p := ⟨b, o, none⟩) (World.block_lt_of_cell? W _ (h b o v hm).1)).trans (h b o v hm).1, (hb.frozen (p := ⟨b, o, none⟩) (World.block_lt_of_cell? W _ (h b o v hm).1)).trans (h b o v hm).2⟩
theorem Boxed.other {W : World} {l : List (Nat × Nat × Value)} (h : Boxed W l) (p : Addr) (x : Value) (hn : ∀ q ∈ l, q.1 ≠ p.block) : Boxed (W.setCell p x) l :=
  fun b o v hm => ⟨cell_setCell_block (h b o v hm).1 (hn _ hm), by rw [World.frozen?_setCell]; exact (h b o v hm).2⟩
theorem Boxed.nil (W : World) : Boxed W [] := fun b o v hm => by simp at hm
theorem Boxed.cons {W : World} {l : List (Nat × Nat × Value)} {b o : Nat} {v : Value} (h1 : W.cell? ⟨b, o, none⟩ = some v) (h2 : W.frozen? ⟨b, o, none⟩ = false) (h : Boxed W l) : Boxed W ((b, o, v) :: l) := by
  intro b' o' v' hm
  rcases List.mem_cons.1 hm with e | hm
  · cases e; exact ⟨h1, h2⟩
  · exact h b' o' v' hm
/-- a box of two cells is written -/
theorem Boxed.set2 {W : World} {b : Nat} {x y x' y' : Value} (h : Boxed W [(b, 0, x'), (b, 1, y')]) : Boxed ((W.setCell ⟨b, 0, none⟩ x).setCell ⟨b, 1, none⟩ y) [(b, 0, x), (b, 1, y)] := by
  obtain ⟨k0, k1⟩ := box2_stored (x := x) (y := y) (h.cell b 0 x' (by simp)) (h.cell b 1 y' (by simp))
  refine Boxed.cons k0 ?_ (Boxed.cons k1 ?_ (Boxed.nil _))
  · rw [World.frozen?_setCell, World.frozen?_setCell]; exact h.frozen b 0 x' (by simp)
  · rw [World.frozen?_setCell, World.frozen?_setCell]; exact h.frozen b 1 y' (by simp)
end Go.Proofs.Ytonmgmhkejbikaa
