/- Merged: Spoil20, Boxes3. -/
import Derived.Test.YtbmibaafkgleeaaIdxFns
import Derived.Test.YtbmibaafkgleeaaTwoAll
import Derived.Test.YtbmibaafkgleeaaIdxFacts
namespace Go.Proofs.Ytbmibaafkgleeaa
set_option linter.unusedVariables false
set_option linter.unusedSimpArgs false
section
open Go.RowKit

/-- a row of ints of one's own, whatever it holds -/
def OwnR20 (e : TypeId) (B : Nat) (ao : Option Addr) (n c : Nat) (w : World) : Prop := ∃ xs : List Int, xs.length = n ∧ w.ownsRow B e 1 (.slice ao n c) n (xs.map (Value.int .i64))

theorem OwnR20.form {e : TypeId} {B : Nat} {ao : Option Addr} {n c : Nat} {w : World} (h : OwnR20 e B ao n c w) {j : Nat} (hj : j < n) : ∃ g, ao = some ⟨g, 0, none⟩ ∧ B ≤ g ∧ g < w.heap.size := by
  obtain ⟨xs, hl, h1, ⟨h2, h3⟩ | ⟨g, cap, cur, hv, hg, hh, _⟩⟩ := h
  · omega
  · cases hv; exact ⟨g, rfl, hg, (Array.getElem?_eq_some_iff.1 hh).1⟩
theorem OwnR20.set {e : TypeId} {B g n c : Nat} {w : World} (h : OwnR20 e B (some ⟨g, 0, none⟩) n c w) {j : Nat} (hj : j < n) :
    (∃ v, w.cell? ⟨g, j, none⟩ = some v) ∧ w.frozen? ⟨g, j, none⟩ = false ∧ ∀ y : Int, OwnR20 e B (some ⟨g, 0, none⟩) n c (w.setCell ⟨g, j, none⟩ (.int .i64 y)) := by
  obtain ⟨xs, rfl, h1⟩ := h
  obtain ⟨⟨x, _, hx⟩, hf, hs⟩ := row_cell h1 hj
  refine ⟨⟨_, hx⟩, hf, fun y => ⟨xs.set j y, by simp, ?_⟩⟩
  have := hs y
  rw [List.length_set] at this
  exact this
theorem OwnR20.other {e : TypeId} {B : Nat} {ao : Option Addr} {n c : Nat} {w w' : World} (h : OwnR20 e B ao n c w) (hh : ∀ k, (Value.slice ao n c).ownBlock = some k → w'.heap[k]? = w.heap[k]?) : OwnR20 e B ao n c w' := by
  obtain ⟨xs, hl, h1⟩ := h
  exact ⟨xs, hl, owns_heap h1 hh⟩

theorem spoil20_ok (L : Int) (B : Nat) (va ua : Option Addr) (n vc m uc : Nat) (w : World) (hv : OwnR20 2 B va n vc w) (hu : OwnR20 3 B ua m uc w) (hne : ∀ k l, (Value.slice va n vc).ownBlock = some k → (Value.slice ua m uc).ownBlock = some l → k ≠ l) (hB : B ≤ w.heap.size) (hn : n ≤ 1000000000) (hm : m ≤ 1000000000) :
    Calls Try.prog 18 #[ixV L va n vc ua m uc] w fun e w' => (∃ v, e = .returned v) ∧ Below B w w' := by
  have HV := Lib.hid hv
  have HU := Lib.hid hu
  have HN := Lib.hid hne
  have HB0 := Lib.hid (fun k (hk : (Value.slice va n vc).ownBlock = some k) => (by obtain ⟨xs, hl, h1⟩ := hv; exact (owns_lt h1 hk).2 : k < w.heap.size))
  have HB1 := Lib.hid (fun k (hk : (Value.slice ua m uc).ownBlock = some k) => (by obtain ⟨xs, hl, h1⟩ := hu; exact (owns_lt h1 hk).2 : k < w.heap.size))
  clear hv hu hne
  go_enter Try.func18, Try.ntmps18
  go_wp2
  go_loopg [2] n (fun g i wr => ∃ k : Nat, k + g = n ∧ i = .int .i64 k ∧ Hid (OwnR20 2 B va n vc wr) ∧ Hid (OwnR20 3 B ua m uc wr) ∧ wr.cell? ⟨w.heap.size, 1, none⟩ = some (.slice va n vc) ∧ wr.cell? ⟨w.heap.size, 2, none⟩ = some (.slice ua m uc) ∧ Hid (Below B w wr))
  case atStart =>
    exact ⟨0, by omega, rfl, Lib.hid (HV.out.other fun k hk => Below.heap_alloc _ _ _ (HB0.out k hk)), Lib.hid (HU.out.other fun k hk => Below.heap_alloc _ _ _ (HB1.out k hk)), by ((try simp (disch := first | omega | (simp only [szW] <;> omega) | fail) only [ceW]) <;> rfl), by ((try simp (disch := first | omega | (simp only [szW] <;> omega) | fail) only [ceW]) <;> rfl), Lib.hid ((Below.refl _ w).alloc hB _)⟩
  case round =>
    obtain ⟨k, hk, rfl, HV1, HU1, hc0, hc1, HB⟩ := hrel
    by_cases hlt : k < n
    · obtain ⟨g, rfl, hg1, hg2⟩ := HV1.out.form hlt
      obtain ⟨⟨x, hx⟩, hf, hs⟩ := HV1.out.set hlt
      have hgw : g < w.heap.size := HB0.out g rfl
      have HS := Lib.hid (hs (-7))
      have HU2 := Lib.hid (HU1.out.other (w' := wr.setCell ⟨g, k, none⟩ (.int .i64 (-7))) fun l hl => heap_setCell_ne _ _ _ (by have := HN.out g l rfl hl; show l ≠ g; omega))
      clear hs
      go_wp2
      go_roundg (gk - 1)
      case measure => omega
      case rel => exact ⟨k + 1, by omega, by go_num, HS, HU2, by rw [World.cell?_setCell_other _ _ _ _ (by intro e; simp at e <;> omega)]; exact hc0, by rw [World.cell?_setCell_other _ _ _ _ (by intro e; simp at e <;> omega)]; exact hc1, Lib.hid (HB.out.setCell hg1 _)⟩
    · obtain rfl : k = n := by omega
      clear HV HV1 hk hlt
      obtain ⟨wo, rfl⟩ : ∃ wo, wr = wo := ⟨_, rfl⟩
      go_wp2
      go_loopg [3] m (fun g i wr => ∃ k : Nat, k + g = m ∧ i = .int .i64 k ∧ Hid (OwnR20 3 B ua m uc wr) ∧ wr.cell? ⟨w.heap.size, 2, none⟩ = some (.slice ua m uc) ∧ Hid (Below B w wr))
      case atStart => exact ⟨0, by omega, rfl, HU1, hc1, HB⟩
      case round =>
        obtain ⟨j, hk, rfl, HU2, hc2, HB2⟩ := hrel
        by_cases hlt : j < m
        · obtain ⟨g, rfl, hg1, hg2⟩ := HU2.out.form hlt
          obtain ⟨⟨x, hx⟩, hf, hs⟩ := HU2.out.set hlt
          have hgw : g < w.heap.size := HB1.out g rfl
          have HS := Lib.hid (hs (-7))
          clear hs
          go_wp2
          go_roundg (gk - 1)
          case measure => omega
          case rel => exact ⟨j + 1, by omega, by go_num, HS, by rw [World.cell?_setCell_other _ _ _ _ (by intro e; simp at e <;> omega)]; exact hc2, Lib.hid (HB2.out.setCell hg1 _)⟩
        · obtain rfl : j = m := by omega
          go_wp2
          exact bodyPost_end (results_none rfl _ _ _) rfl ⟨⟨_, rfl⟩, HB2.out⟩
end

section
open Go.RowKit

/-- the results of two operations are not the same -/
def BoxR (m n : Nat) (j k : Nat) (x y : Value) : Prop := (j = m ∧ k = n ∨ j = n ∧ k = m) → x ≠ y
theorem boxR_free {m n j k : Nat} {x y : Value} (h1 : k ≠ m) (h2 : k ≠ n) : BoxR m n j k x y ∧ BoxR m n k j y x := ⟨fun h => by omega, fun h => by omega⟩
theorem boxR_alloc {B c : Nat} {t : TypeId} {m n j k : Nat} {w : World} {x : Value} (hG : (j = m ∨ j = n) → (FactR.box B t c).holds x w) : BoxR m n j k x (.pointer (some ⟨w.heap.size, 0, none⟩)) ∧ BoxR m n k j (.pointer (some ⟨w.heap.size, 0, none⟩)) x := by
  have key : (j = m ∨ j = n) → x ≠ .pointer (some ⟨w.heap.size, 0, none⟩) := fun h => by
    obtain ⟨b, cs, rfl, -, q, -⟩ := hG h
    have := (Array.getElem?_eq_some_iff.1 q).1
    intro e
    injection e with e
    injection e with e
    injection e with e
    omega
  exact ⟨fun h => key (by omega), fun h => (key (by omega)).symm⟩
theorem three_boxes {w2 : World} {b5 b6 b7 : Nat} {d0 d1 d2 e0 e1 e2 e3 e4 e5 f0 f1 f2 f3 f4 f5 x y z p0 p1 p2 p3 p4 p5 q0 q1 q2 q3 q4 q5 : Value} (h56 : b5 ≠ b6) (h57 : b5 ≠ b7) (h67 : b6 ≠ b7)
    (k0 : w2.cell? ⟨b5, 0, none⟩ = some d0) (k1 : w2.cell? ⟨b5, 1, none⟩ = some d1) (k2 : w2.cell? ⟨b5, 2, none⟩ = some d2)
    (m0 : w2.cell? ⟨b6, 0, none⟩ = some e0) (m1 : w2.cell? ⟨b6, 1, none⟩ = some e1) (m2 : w2.cell? ⟨b6, 2, none⟩ = some e2) (m3 : w2.cell? ⟨b6, 3, none⟩ = some e3) (m4 : w2.cell? ⟨b6, 4, none⟩ = some e4) (m5 : w2.cell? ⟨b6, 5, none⟩ = some e5)
    (n0 : w2.cell? ⟨b7, 0, none⟩ = some f0) (n1 : w2.cell? ⟨b7, 1, none⟩ = some f1) (n2 : w2.cell? ⟨b7, 2, none⟩ = some f2) (n3 : w2.cell? ⟨b7, 3, none⟩ = some f3) (n4 : w2.cell? ⟨b7, 4, none⟩ = some f4) (n5 : w2.cell? ⟨b7, 5, none⟩ = some f5) (W : World)
    (hW : W = (((((((((((((((w2.setCell ⟨b5, 0, none⟩ x).setCell ⟨b5, 1, none⟩ y).setCell ⟨b5, 2, none⟩ z).setCell ⟨b6, 0, none⟩ p0).setCell ⟨b6, 1, none⟩ p1).setCell ⟨b6, 2, none⟩ p2).setCell ⟨b6, 3, none⟩ p3).setCell ⟨b6, 4, none⟩ p4).setCell ⟨b6, 5, none⟩ p5).setCell ⟨b7, 0, none⟩ q0).setCell ⟨b7, 1, none⟩ q1).setCell ⟨b7, 2, none⟩ q2).setCell ⟨b7, 3, none⟩ q3).setCell ⟨b7, 4, none⟩ q4).setCell ⟨b7, 5, none⟩ q5)) :
    (W.cell? ⟨b5, 0, none⟩ = some x ∧ W.cell? ⟨b5, 1, none⟩ = some y ∧ W.cell? ⟨b5, 2, none⟩ = some z) ∧
    (∀ i v, [p0, p1, p2, p3, p4, p5][i]? = some v → W.cell? ⟨b6, i, none⟩ = some v) ∧ (∀ i v, [q0, q1, q2, q3, q4, q5][i]? = some v → W.cell? ⟨b7, i, none⟩ = some v) ∧
    W.heap.size = w2.heap.size ∧ (∀ k, k ≠ b5 → k ≠ b6 → k ≠ b7 → W.heap[k]? = w2.heap[k]?) ∧ (∀ {m : Nat} {w : World}, Below m w w2 → m ≤ b5 → m ≤ b6 → m ≤ b7 → Below m w W) := by
  subst hW
  have hs5 := three_set (w2 := w2) (b := b5) (x := x) (y := y) (z := z) k0 k1 k2
  have hq5 : ∀ k, k ≠ b5 → (((w2.setCell ⟨b5, 0, none⟩ x).setCell ⟨b5, 1, none⟩ y).setCell ⟨b5, 2, none⟩ z).heap[k]? = w2.heap[k]? := fun k hk => by rw [heap_setCell_ne _ _ _ hk, heap_setCell_ne _ _ _ hk, heap_setCell_ne _ _ _ hk]
  have hB5 : ∀ {m : Nat} {w : World}, Below m w w2 → m ≤ b5 → Below m w (((w2.setCell ⟨b5, 0, none⟩ x).setCell ⟨b5, 1, none⟩ y).setCell ⟨b5, 2, none⟩ z) := fun h h1 => ((h.setCell h1 _).setCell h1 _).setCell h1 _
  have hz5 : (((w2.setCell ⟨b5, 0, none⟩ x).setCell ⟨b5, 1, none⟩ y).setCell ⟨b5, 2, none⟩ z).heap.size = w2.heap.size := by simp
  generalize (((w2.setCell ⟨b5, 0, none⟩ x).setCell ⟨b5, 1, none⟩ y).setCell ⟨b5, 2, none⟩ z) = w3 at *
  have t6 : ∀ i : Nat, w3.cell? ⟨b6, i, none⟩ = w2.cell? ⟨b6, i, none⟩ := fun i => World.cell?_of_block (a := ⟨b6, i, none⟩) (hq5 b6 h56.symm)
  have hs6 := six_set (w := w3) (b := b6) (x := p0) (y := p1) (z := p2) (p := p3) (q := p4) (r := p5) ((t6 0).trans m0) ((t6 1).trans m1) ((t6 2).trans m2) ((t6 3).trans m3) ((t6 4).trans m4) ((t6 5).trans m5)
  have hq6 : ∀ k, k ≠ b6 → ((((((w3.setCell ⟨b6, 0, none⟩ p0).setCell ⟨b6, 1, none⟩ p1).setCell ⟨b6, 2, none⟩ p2).setCell ⟨b6, 3, none⟩ p3).setCell ⟨b6, 4, none⟩ p4).setCell ⟨b6, 5, none⟩ p5).heap[k]? = w3.heap[k]? := fun k hk => by rw [heap_setCell_ne _ _ _ hk, heap_setCell_ne _ _ _ hk, heap_setCell_ne _ _ _ hk, heap_setCell_ne _ _ _ hk, heap_setCell_ne _ _ _ hk, heap_setCell_ne _ _ _ hk]
  have hB6 : ∀ {m : Nat} {w : World}, Below m w w3 → m ≤ b6 → Below m w ((((((w3.setCell ⟨b6, 0, none⟩ p0).setCell ⟨b6, 1, none⟩ p1).setCell ⟨b6, 2, none⟩ p2).setCell ⟨b6, 3, none⟩ p3).setCell ⟨b6, 4, none⟩ p4).setCell ⟨b6, 5, none⟩ p5) := fun h h1 => (((((h.setCell h1 _).setCell h1 _).setCell h1 _).setCell h1 _).setCell h1 _).setCell h1 _
  have hz6 : ((((((w3.setCell ⟨b6, 0, none⟩ p0).setCell ⟨b6, 1, none⟩ p1).setCell ⟨b6, 2, none⟩ p2).setCell ⟨b6, 3, none⟩ p3).setCell ⟨b6, 4, none⟩ p4).setCell ⟨b6, 5, none⟩ p5).heap.size = w3.heap.size := by simp
  generalize ((((((w3.setCell ⟨b6, 0, none⟩ p0).setCell ⟨b6, 1, none⟩ p1).setCell ⟨b6, 2, none⟩ p2).setCell ⟨b6, 3, none⟩ p3).setCell ⟨b6, 4, none⟩ p4).setCell ⟨b6, 5, none⟩ p5) = w4 at *
  have t7 : ∀ i : Nat, w4.cell? ⟨b7, i, none⟩ = w2.cell? ⟨b7, i, none⟩ := fun i => (World.cell?_of_block (a := ⟨b7, i, none⟩) (hq6 b7 h67.symm)).trans (World.cell?_of_block (a := ⟨b7, i, none⟩) (hq5 b7 h57.symm))
  have hs7 := six_set (w := w4) (b := b7) (x := q0) (y := q1) (z := q2) (p := q3) (q := q4) (r := q5) ((t7 0).trans n0) ((t7 1).trans n1) ((t7 2).trans n2) ((t7 3).trans n3) ((t7 4).trans n4) ((t7 5).trans n5)
  have hq7 : ∀ k, k ≠ b7 → ((((((w4.setCell ⟨b7, 0, none⟩ q0).setCell ⟨b7, 1, none⟩ q1).setCell ⟨b7, 2, none⟩ q2).setCell ⟨b7, 3, none⟩ q3).setCell ⟨b7, 4, none⟩ q4).setCell ⟨b7, 5, none⟩ q5).heap[k]? = w4.heap[k]? := fun k hk => by rw [heap_setCell_ne _ _ _ hk, heap_setCell_ne _ _ _ hk, heap_setCell_ne _ _ _ hk, heap_setCell_ne _ _ _ hk, heap_setCell_ne _ _ _ hk, heap_setCell_ne _ _ _ hk]
  have hz7 : ((((((w4.setCell ⟨b7, 0, none⟩ q0).setCell ⟨b7, 1, none⟩ q1).setCell ⟨b7, 2, none⟩ q2).setCell ⟨b7, 3, none⟩ q3).setCell ⟨b7, 4, none⟩ q4).setCell ⟨b7, 5, none⟩ q5).heap.size = w4.heap.size := by simp
  have hB7 : ∀ {m : Nat} {w : World}, Below m w w4 → m ≤ b7 → Below m w ((((((w4.setCell ⟨b7, 0, none⟩ q0).setCell ⟨b7, 1, none⟩ q1).setCell ⟨b7, 2, none⟩ q2).setCell ⟨b7, 3, none⟩ q3).setCell ⟨b7, 4, none⟩ q4).setCell ⟨b7, 5, none⟩ q5) := fun h h1 => (((((h.setCell h1 _).setCell h1 _).setCell h1 _).setCell h1 _).setCell h1 _).setCell h1 _
  generalize ((((((w4.setCell ⟨b7, 0, none⟩ q0).setCell ⟨b7, 1, none⟩ q1).setCell ⟨b7, 2, none⟩ q2).setCell ⟨b7, 3, none⟩ q3).setCell ⟨b7, 4, none⟩ q4).setCell ⟨b7, 5, none⟩ q5) = w5 at *
  have r5 : ∀ i : Nat, w5.cell? ⟨b5, i, none⟩ = w3.cell? ⟨b5, i, none⟩ := fun i => (World.cell?_of_block (a := ⟨b5, i, none⟩) (hq7 b5 h57)).trans (World.cell?_of_block (a := ⟨b5, i, none⟩) (hq6 b5 h56))
  refine ⟨⟨(r5 0).trans hs5.1, (r5 1).trans hs5.2.1, (r5 2).trans hs5.2.2⟩, fun i v h => (World.cell?_of_block (a := ⟨b6, i, none⟩) (hq7 b6 h67)).trans (hs6 i v h), hs7, by omega, fun k h1 h2 h3 => (hq7 k h3).trans ((hq6 k h2).trans (hq5 k h1)), fun h h1 h2 h3 => hB7 (hB6 (hB5 h h1) h2) h3⟩
end
end Go.Proofs.Ytbmibaafkgleeaa
