/- Merged: Put02, FilS, Filled. -/
import Derived.Test.YtmnlagmmbfjbeaaGreatDoorSlRef
import Derived.Test.YtmnlagmmbfjbeaaGreatDoorE4F
import Derived.Test.YtmnlagmmbfjbeaaGreatDoorSlTw
import Derived.Test.YtmnlagmmbfjbeaaGreatDoorSlPut
import Derived.Test.YtmnlagmmbfjbeaaGreatDoorInvL
import Derived.Test.YtmnlagmmbfjbeaaGreatDoorGapCkA
import Derived.Test.YtmnlagmmbfjbeaaGreatDoorInvFc
import Derived.Deep.CutRange
namespace Go.Proofs.YtmnlagmmbfjbeaaGreatDoor
set_option linter.unusedVariables false
set_option linter.unusedSimpArgs false
section
open Go.RowKit

end

section
open Go.RowKit

/-- a gapped array in the box b, on rows of its own from B on -/
structure FilS (B : Nat) (W : World) (b g1 g2 g3 g4 k1 k2 k3 k4 lw n lc : Nat) (c : SlC) : Prop where
  c0 : W.cell? ⟨b, 0, none⟩ = some (.int .i64 c.seg)
  c1 : W.cell? ⟨b, 1, none⟩ = some (.slice (some ⟨g1, 0, none⟩) lw k1)
  c2 : W.cell? ⟨b, 2, none⟩ = some (.slice (some ⟨g2, 0, none⟩) n k2)
  c3 : W.cell? ⟨b, 3, none⟩ = some (.slice (some ⟨g3, 0, none⟩) n k3)
  c4 : W.cell? ⟨b, 4, none⟩ = some (.slice (some ⟨g4, 0, none⟩) lc k4)
  c5 : W.cell? ⟨b, 5, none⟩ = some (.int .u64 c.laid)
  f1 : W.frozen? ⟨b, 1, none⟩ = false
  f5 : W.frozen? ⟨b, 5, none⟩ = false
  o1 : W.ownsRow B 27 1 (.slice (some ⟨g1, 0, none⟩) lw k1) lw (c.ws.map (Value.int .u64))
  o2 : W.ownsRow B 2 1 (.slice (some ⟨g2, 0, none⟩) n k2) n (c.ks.map (Value.int .i64))
  o3 : W.ownsRow B 2 1 (.slice (some ⟨g3, 0, none⟩) n k3) n (c.vs.map (Value.int .i64))
  o4 : W.ownsRow B 3 1 (.slice (some ⟨g4, 0, none⟩) lc k4) lc (c.cs.map (Value.int .i64))
  bB : b < B
  n23 : g2 ≠ g3
theorem owns_ne {w : World} {B g g' n n' k k' : Nat} {e e' : TypeId} {xs xs' : List Value} (ha : w.ownsRow B e 1 (.slice (some ⟨g, 0, none⟩) n k) n xs) (hb : w.ownsRow B e' 1 (.slice (some ⟨g', 0, none⟩) n' k') n' xs') (hc : e ≠ e') : g ≠ g' := by
  rcases owns_apart ha hb hc with h | h
  · cases h
  · intro hgg; exact h (by subst hgg; rfl)
section
variable {B b g1 g2 g3 g4 k1 k2 k3 k4 lw n lc : Nat} {W W' : World} {c : SlC}
theorem FilS.nums (h : FilS B W b g1 g2 g3 g4 k1 k2 k3 k4 lw n lc c) : B ≤ g1 ∧ B ≤ g2 ∧ B ≤ g3 ∧ B ≤ g4 ∧ g1 < W.heap.size ∧ g2 < W.heap.size ∧ g3 < W.heap.size ∧ g4 < W.heap.size ∧ g1 ≠ g2 ∧ g1 ≠ g3 ∧ g1 ≠ g4 ∧ g2 ≠ g4 ∧ g3 ≠ g4 ∧ b < W.heap.size :=
  ⟨(h.o1.lt g1 rfl).1, (h.o2.lt g2 rfl).1, (h.o3.lt g3 rfl).1, (h.o4.lt g4 rfl).1, (h.o1.lt g1 rfl).2, (h.o2.lt g2 rfl).2, (h.o3.lt g3 rfl).2, (h.o4.lt g4 rfl).2, owns_ne h.o1 h.o2 (by decide), owns_ne h.o1 h.o3 (by decide), owns_ne h.o1 h.o4 (by decide), owns_ne h.o2 h.o4 (by decide), owns_ne h.o3 h.o4 (by decide), World.block_lt_of_cell? _ _ h.c0⟩
theorem FilS.heap (h : FilS B W b g1 g2 g3 g4 k1 k2 k3 k4 lw n lc c) (hb : W'.heap[b]? = W.heap[b]?) (h1 : W'.heap[g1]? = W.heap[g1]?) (h2 : W'.heap[g2]? = W.heap[g2]?) (h3 : W'.heap[g3]? = W.heap[g3]?) (h4 : W'.heap[g4]? = W.heap[g4]?) : FilS B W' b g1 g2 g3 g4 k1 k2 k3 k4 lw n lc c :=
  ⟨(World.cell?_of_block (a := ⟨b, 0, none⟩) hb).trans h.c0, (World.cell?_of_block (a := ⟨b, 1, none⟩) hb).trans h.c1, (World.cell?_of_block (a := ⟨b, 2, none⟩) hb).trans h.c2, (World.cell?_of_block (a := ⟨b, 3, none⟩) hb).trans h.c3, (World.cell?_of_block (a := ⟨b, 4, none⟩) hb).trans h.c4, (World.cell?_of_block (a := ⟨b, 5, none⟩) hb).trans h.c5,
    (World.frozen?_of_block (a := ⟨b, 1, none⟩) hb).trans h.f1, (World.frozen?_of_block (a := ⟨b, 5, none⟩) hb).trans h.f5,
    owns_heap h.o1 fun j hj => by cases hj; exact h1, owns_heap h.o2 fun j hj => by cases hj; exact h2, owns_heap h.o3 fun j hj => by cases hj; exact h3, owns_heap h.o4 fun j hj => by cases hj; exact h4, h.bB, h.n23⟩
theorem FilS.below (h : FilS B W b g1 g2 g3 g4 k1 k2 k3 k4 lw n lc c) (hb : Below W.heap.size W W') : FilS B W' b g1 g2 g3 g4 k1 k2 k3 k4 lw n lc c := by
  have q := h.nums
  exact h.heap (hb.block _ (by omega)) (hb.block _ (by omega)) (hb.block _ (by omega)) (hb.block _ (by omega)) (hb.block _ (by omega))
theorem FilS.drew (h : FilS B W b g1 g2 g3 g4 k1 k2 k3 k4 lw n lc c) : FilS B W.drew b g1 g2 g3 g4 k1 k2 k3 k4 lw n lc c := h.heap rfl rfl rfl rfl rfl
theorem FilS.setL (h : FilS B W b g1 g2 g3 g4 k1 k2 k3 k4 lw n lc c) (y : Int) : FilS B (W.setCell ⟨b, 5, none⟩ (.int .u64 y)) b g1 g2 g3 g4 k1 k2 k3 k4 lw n lc ⟨c.seg, c.ws, c.ks, c.vs, c.cs, y⟩ := by
  have q := h.nums
  have hbB := h.bB
  have hk : ∀ z, z ≠ b → (W.setCell ⟨b, 5, none⟩ (.int .u64 y)).heap[z]? = W.heap[z]? := fun z hz => heap_setCell_ne _ _ _ hz
  exact ⟨set_keep (by simp) h.c0, set_keep (by simp) h.c1, set_keep (by simp) h.c2, set_keep (by simp) h.c3, set_keep (by simp) h.c4, World.cell?_setCell_same _ _ _ h.c5,
    by rw [World.frozen?_setCell]; exact h.f1, by rw [World.frozen?_setCell]; exact h.f5,
    owns_heap h.o1 fun j hj => by cases hj; exact hk _ (by dsimp only; omega), owns_heap h.o2 fun j hj => by cases hj; exact hk _ (by dsimp only; omega), owns_heap h.o3 fun j hj => by cases hj; exact hk _ (by dsimp only; omega), owns_heap h.o4 fun j hj => by cases hj; exact hk _ (by dsimp only; omega), h.bB, h.n23⟩
end
end

section
open Go.RowKit Go.Shelf
attribute [local go_sem] Oper.semAt_some

/-- what stays while a box is written: all that was there but the box -/
structure FilK (w w2 W : World) : Prop where
  bel : Below w.heap.size w W
  keep : ∀ q, q < w.heap.size + 2 → q ≠ w.heap.size → W.heap[q]? = w2.heap[q]?
  size : w.heap.size + 2 ≤ W.heap.size
theorem FilK.below {w w2 W W' : World} (h : FilK w w2 W) (hb : Below W.heap.size W W') : FilK w w2 W' :=
  ⟨below_via hb h.bel (by have := h.size; omega), fun q hq hne => (hb.block q (by have := h.size; omega)).trans (h.keep q hq hne), Nat.le_trans h.size hb.size⟩
theorem FilK.drew {w w2 W : World} (h : FilK w w2 W) : FilK w w2 W.drew := ⟨h.bel.drew, h.keep, h.size⟩
theorem FilK.setCell {w w2 W : World} (h : FilK w w2 W) {a : Addr} (ha : a.block = w.heap.size ∨ w.heap.size + 2 ≤ a.block) (v : Value) : FilK w w2 (W.setCell a v) :=
  ⟨h.bel.setCell (by omega) v, fun q hq hne => (heap_setCell_ne _ _ _ (by omega)).trans (h.keep q hq hne), by rw [World.size_setCell]; exact h.size⟩
end
end Go.Proofs.YtmnlagmmbfjbeaaGreatDoor
