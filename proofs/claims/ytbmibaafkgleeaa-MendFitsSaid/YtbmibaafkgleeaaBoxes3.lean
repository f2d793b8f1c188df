/- Three boxes that are laid in a drawn region (one of three cells, two of six), then stored into one behind the other. -/
import Derived.Test.YtbmibaafkgleeaaTwoAll
import Derived.Test.YtbmibaafkgleeaaEffAll
namespace Go.Proofs.Ytbmibaafkgleeaa
open Go.RowKit
set_option linter.unusedVariables false
set_option linter.unusedSimpArgs false

/-- the results of two operations are not the same -/
def BoxR (m n : Nat) (j k : Nat) (x y : Value) : Prop := (j = m ∧ k = n ∨ j = n ∧ k = m) → x ≠ y
theorem boxR_free {m n j k : Nat} {x y : Value} (h1 : k ≠ m) (h2 : k ≠ n) : BoxR m n j k x y ∧ BoxR m n k j y x := ⟨fun h => by omega, fun h => by omega⟩
theorem boxR_alloc {B c : Nat} {t : TypeId} {m n j k : Nat} {w : World} {x : Value} (hG : (j = m ∨ j = n) → (FactR.box B t c).holds x w) : BoxR m n j k x (.pointer (some ⟨w.heap.size, 0, none⟩)) ∧ BoxR m n k j (.pointer (some ⟨w.heap.size, 0, none⟩)) x := by
  have key : (j = m ∨ j = n) → x ≠ .pointer (some ⟨w.heap.size, 0, none⟩) := fun h => by
    obtain ⟨b, cs, rfl, -, q, -⟩ := hG h
    have := (Array.getElem?_eq_some_iff.1 q).1
    intro e
    injection e with e
    injection e with e
    injection e with e
    omega
  exact ⟨fun h => key (by omega), fun h => (key (by omega)).symm⟩
theorem three_boxes {w2 : World} {b5 b6 b7 : Nat} {d0 d1 d2 e0 e1 e2 e3 e4 e5 f0 f1 f2 f3 f4 f5 x y z p0 p1 p2 p3 p4 p5 q0 q1 q2 q3 q4 q5 : Value} (h56 : b5 ≠ b6) (h57 : b5 ≠ b7) (h67 : b6 ≠ b7)
    (k0 : w2.cell? ⟨b5, 0, none⟩ = some d0) (k1 : w2.cell? ⟨b5, 1, none⟩ = some d1) (k2 : w2.cell? ⟨b5, 2, none⟩ = some d2)
    (m0 : w2.cell? ⟨b6, 0, none⟩ = some e0) (m1 : w2.cell? ⟨b6, 1, none⟩ = some e1) (m2 : w2.cell? ⟨b6, 2, none⟩ = some e2) (m3 : w2.cell? ⟨b6, 3, none⟩ = some e3) (m4 : w2.cell? ⟨b6, 4, none⟩ = some e4) (m5 : w2.cell? ⟨b6, 5, none⟩ = some e5)
    (n0 : w2.cell? ⟨b7, 0, none⟩ = some f0) (n1 : w2.cell? ⟨b7, 1, none⟩ = some f1) (n2 : w2.cell? ⟨b7, 2, none⟩ = some f2) (n3 : w2.cell? ⟨b7, 3, none⟩ = some f3) (n4 : w2.cell? ⟨b7, 4, none⟩ = some f4) (n5 : w2.cell? ⟨b7, 5, none⟩ = some f5) (W : World)
    (hW : W = (((((((((((((((w2.setCell ⟨b5, 0, none⟩ x).setCell ⟨b5, 1, none⟩ y).setCell ⟨b5, 2, none⟩ z).setCell ⟨b6, 0, none⟩ p0).setCell ⟨b6, 1, none⟩ p1).setCell ⟨b6, 2, none⟩ p2).setCell ⟨b6, 3, none⟩ p3).setCell ⟨b6, 4, none⟩ p4).setCell ⟨b6, 5, none⟩ p5).setCell ⟨b7, 0, none⟩ q0).setCell ⟨b7, 1, none⟩ q1).setCell ⟨b7, 2, none⟩ q2).setCell ⟨b7, 3, none⟩ q3).setCell ⟨b7, 4, none⟩ q4).setCell ⟨b7, 5, none⟩ q5)) :
    (W.cell? ⟨b5, 0, none⟩ = some x ∧ W.cell? ⟨b5, 1, none⟩ = some y ∧ W.cell? ⟨b5, 2, none⟩ = some z) ∧
    (∀ i v, [p0, p1, p2, p3, p4, p5][i]? = some v → W.cell? ⟨b6, i, none⟩ = some v) ∧ (∀ i v, [q0, q1, q2, q3, q4, q5][i]? = some v → W.cell? ⟨b7, i, none⟩ = some v) ∧
    W.heap.size = w2.heap.size ∧ (∀ k, k ≠ b5 → k ≠ b6 → k ≠ b7 → W.heap[k]? = w2.heap[k]?) ∧ (∀ {m : Nat} {w : World}, Below m w w2 → m ≤ b5 → m ≤ b6 → m ≤ b7 → Below m w W) := by
  subst hW
  have hs5 := three_set (w2 := w2) (b := b5) (x := x) (y := y) (z := z) k0 k1 k2
  have hq5 : ∀ k, k ≠ b5 → (((w2.setCell ⟨b5, 0, none⟩ x).setCell ⟨b5, 1, none⟩ y).setCell ⟨b5, 2, none⟩ z).heap[k]? = w2.heap[k]? := fun k hk => by rw [heap_setCell_ne _ _ _ hk, heap_setCell_ne _ _ _ hk, heap_setCell_ne _ _ _ hk]
  have hB5 : ∀ {m : Nat} {w : World}, Below m w w2 → m ≤ b5 → Below m w (((w2.setCell ⟨b5, 0, none⟩ x).setCell ⟨b5, 1, none⟩ y).setCell ⟨b5, 2, none⟩ z) := fun h h1 => ((h.setCell h1 _).setCell h1 _).setCell h1 _
  have hz5 : (((w2.setCell ⟨b5, 0, none⟩ x).setCell ⟨b5, 1, none⟩ y).setCell ⟨b5, 2, none⟩ z).heap.size = w2.heap.size := by simp
  generalize (((w2.setCell ⟨b5, 0, none⟩ x).setCell ⟨b5, 1, none⟩ y).setCell ⟨b5, 2, none⟩ z) = w3 at *
  have t6 : ∀ i : Nat, w3.cell? ⟨b6, i, none⟩ = w2.cell? ⟨b6, i, none⟩ := fun i => World.cell?_of_block (a := ⟨b6, i, none⟩) (hq5 b6 h56.symm)
  have hs6 := six_set (w := w3) (b := b6) (x := p0) (y := p1) (z := p2) (p := p3) (q := p4) (r := p5) ((t6 0).trans m0) ((t6 1).trans m1) ((t6 2).trans m2) ((t6 3).trans m3) ((t6 4).trans m4) ((t6 5).trans m5)
  have hq6 : ∀ k, k ≠ b6 → ((((((w3.setCell ⟨b6, 0, none⟩ p0).setCell ⟨b6, 1, none⟩ p1).setCell ⟨b6, 2, none⟩ p2).setCell ⟨b6, 3, none⟩ p3).setCell ⟨b6, 4, none⟩ p4).setCell ⟨b6, 5, none⟩ p5).heap[k]? = w3.heap[k]? := fun k hk => by rw [heap_setCell_ne _ _ _ hk, heap_setCell_ne _ _ _ hk, heap_setCell_ne _ _ _ hk, heap_setCell_ne _ _ _ hk, heap_setCell_ne _ _ _ hk, heap_setCell_ne _ _ _ hk]
  have hB6 : ∀ {m : Nat} {w : World}, Below m w w3 → m ≤ b6 → Below m w ((((((w3.setCell ⟨b6, 0, none⟩ p0).setCell ⟨b6, 1, none⟩ p1).setCell ⟨b6, 2, none⟩ p2).setCell ⟨b6, 3, none⟩ p3).setCell ⟨b6, 4, none⟩ p4).setCell ⟨b6, 5, none⟩ p5) := fun h h1 => (((((h.setCell h1 _).setCell h1 _).setCell h1 _).setCell h1 _).setCell h1 _).setCell h1 _
  have hz6 : ((((((w3.setCell ⟨b6, 0, none⟩ p0).setCell ⟨b6, 1, none⟩ p1).setCell ⟨b6, 2, none⟩ p2).setCell ⟨b6, 3, none⟩ p3).setCell ⟨b6, 4, none⟩ p4).setCell ⟨b6, 5, none⟩ p5).heap.size = w3.heap.size := by simp
  generalize ((((((w3.setCell ⟨b6, 0, none⟩ p0).setCell ⟨b6, 1, none⟩ p1).setCell ⟨b6, 2, none⟩ p2).setCell ⟨b6, 3, none⟩ p3).setCell ⟨b6, 4, none⟩ p4).setCell ⟨b6, 5, none⟩ p5) = w4 at *
  have t7 : ∀ i : Nat, w4.cell? ⟨b7, i, none⟩ = w2.cell? ⟨b7, i, none⟩ := fun i => (World.cell?_of_block (a := ⟨b7, i, none⟩) (hq6 b7 h67.symm)).trans (World.cell?_of_block (a := ⟨b7, i, none⟩) (hq5 b7 h57.symm))
  have hs7 := six_set (w := w4) (b := b7) (x := q0) (y := q1) (z := q2) (p := q3) (q := q4) (r := q5) ((t7 0).trans n0) ((t7 1).trans n1) ((t7 2).trans n2) ((t7 3).trans n3) ((t7 4).trans n4) ((t7 5).trans n5)
  have hq7 : ∀ k, k ≠ b7 → ((((((w4.setCell ⟨b7, 0, none⟩ q0).setCell ⟨b7, 1, none⟩ q1).setCell ⟨b7, 2, none⟩ q2).setCell ⟨b7, 3, none⟩ q3).setCell ⟨b7, 4, none⟩ q4).setCell ⟨b7, 5, none⟩ q5).heap[k]? = w4.heap[k]? := fun k hk => by rw [heap_setCell_ne _ _ _ hk, heap_setCell_ne _ _ _ hk, heap_setCell_ne _ _ _ hk, heap_setCell_ne _ _ _ hk, heap_setCell_ne _ _ _ hk, heap_setCell_ne _ _ _ hk]
  have hz7 : ((((((w4.setCell ⟨b7, 0, none⟩ q0).setCell ⟨b7, 1, none⟩ q1).setCell ⟨b7, 2, none⟩ q2).setCell ⟨b7, 3, none⟩ q3).setCell ⟨b7, 4, none⟩ q4).setCell ⟨b7, 5, none⟩ q5).heap.size = w4.heap.size := by simp
  have hB7 : ∀ {m : Nat} {w : World}, Below m w w4 → m ≤ b7 → Below m w ((((((w4.setCell ⟨b7, 0, none⟩ q0).setCell ⟨b7, 1, none⟩ q1).setCell ⟨b7, 2, none⟩ q2).setCell ⟨b7, 3, none⟩ q3).setCell ⟨b7, 4, none⟩ q4).setCell ⟨b7, 5, none⟩ q5) := fun h h1 => (((((h.setCell h1 _).setCell h1 _).setCell h1 _).setCell h1 _).setCell h1 _).setCell h1 _
  generalize ((((((w4.setCell ⟨b7, 0, none⟩ q0).setCell ⟨b7, 1, none⟩ q1).setCell ⟨b7, 2, none⟩ q2).setCell ⟨b7, 3, none⟩ q3).setCell ⟨b7, 4, none⟩ q4).setCell ⟨b7, 5, none⟩ q5) = w5 at *
  have r5 : ∀ i : Nat, w5.cell? ⟨b5, i, none⟩ = w3.cell? ⟨b5, i, none⟩ := fun i => (World.cell?_of_block (a := ⟨b5, i, none⟩) (hq7 b5 h57)).trans (World.cell?_of_block (a := ⟨b5, i, none⟩) (hq6 b5 h56))
  refine ⟨⟨(r5 0).trans hs5.1, (r5 1).trans hs5.2.1, (r5 2).trans hs5.2.2⟩, fun i v h => (World.cell?_of_block (a := ⟨b6, i, none⟩) (hq7 b6 h67)).trans (hs6 i v h), hs7, by omega, fun k h1 h2 h3 => (hq7 k h3).trans ((hq6 k h2).trans (hq5 k h1)), fun h h1 h2 h3 => hB7 (hB6 (hB5 h h1) h2) h3⟩
end Go.Proofs.Ytbmibaafkgleeaa
