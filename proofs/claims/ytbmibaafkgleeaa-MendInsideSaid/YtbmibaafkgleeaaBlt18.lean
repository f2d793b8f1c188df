/- Merged: Built18, Build18. -/
import Derived.Test.YtbmibaafkgleeaaIdxTr
import Derived.Test.YtbmibaafkgleeaaIdxTwin
import Derived.Test.YtbmibaafkgleeaaIdxRd
import Derived.Test.YtbmibaafkgleeaaInvFc
import Derived.Test.YtbmibaafkgleeaaSeekAll
namespace Go.Proofs.Ytbmibaafkgleeaa
set_option linter.unusedVariables false
set_option linter.unusedSimpArgs false
section
open Go.RowKit Go.Shelf
attribute [local go_sem] Oper.semAt_some

/-- a row of one's own, whole -/
def Fact.full {T : TypeId} (base : Nat) (e : TypeId) (he : e ≠ T) (n : Nat) (xs : List Value) : Fact T :=
  ⟨fun v w => ∃ g, v = .slice (some ⟨g, 0, none⟩) n n ∧ w.ownsRow base e 1 (.slice (some ⟨g, 0, none⟩) n n) n xs, fun _ _ _ h ⟨g, e1, k⟩ => ⟨g, e1, h.owns he k⟩⟩
theorem made_ints (n : Nat) : (madeCells (Value.int .i64 0).cells (n * 1)).toList = (List.replicate n (0 : Int)).map (Value.int .i64) := by
  rw [Nat.mul_one, List.map_replicate]
  exact toList_madeCells_one _ _
/-- 'make([]T, n)', one step of a region that draws its order -/
theorem wp_make {P : Program} {w : World} {o : Oper} {a : Act} {K : Act → World → Prop} {Q : Exit → Act → World → Prop} (l c : Operand) (t e : TypeId) (z : Value) (size bytes : Nat)
    (ht : P.underlying t = some (.slice e)) (hinfo : (P.info? e).map (fun i => (i.zero, i.size, i.bytes)) = some (some z, size, bytes)) (hbytes : bytes ≤ 1024)
    (B n : Nat) (N : Int) (hN : N = n) (hlen : n ≤ 4294967296) (hbase : B ≤ w.heap.size)
    (ho : o.op = Op.makeSlice t l c) (hl : a.eval l = .int .i64 N) (hc : a.eval c = .int .i64 N)
    (h : ∀ g w', w.heap.size ≤ g → w'.ownsRow B e size (.slice (some ⟨g, 0, none⟩) n n) n (madeCells z.cells (n * size)).toList → Below w.heap.size w w' → K (a.put o.dst (.slice (some ⟨g, 0, none⟩) n n)) w') :
    Oper.wp P o a w K Q := by
  obtain ⟨i0, hi, hz0, hz1, hz2⟩ := info_parts hinfo
  obtain ⟨w', hrun, r1, r2⟩ := run_make_full (P := P) w B t e i0 z size ht hi hz0 hz1 .i64 .i64 n (by rw [hz2]; exact Nat.le_trans (Nat.mul_le_mul hbytes hlen) (by decide)) (by unfold maxLen; omega) hbase
  subst hN
  unfold Oper.wp
  simp [execOp, ho, hl, hc, hrun, Result.andThen]
  exact h w.heap.size w' (Nat.le_refl _) r1 ((Below.refl _ _).grown r2 (Nat.le_refl _) (fun k hk => by cases hk))
/-- a box of three cells: they may be read and written -/
theorem box_three {w : World} {b : Nat} {cs : Array Value} {t : TypeId} (h : w.heap[b]? = some (.cells cs t (0, 0))) (hs : cs.size = 3) :
    ∃ x y z, w.cell? ⟨b, 0, none⟩ = some x ∧ w.cell? ⟨b, 1, none⟩ = some y ∧ w.cell? ⟨b, 2, none⟩ = some z ∧ w.frozen? ⟨b, 0, none⟩ = false ∧ w.frozen? ⟨b, 1, none⟩ = false ∧ w.frozen? ⟨b, 2, none⟩ = false := by
  refine ⟨cs[0], cs[1], cs[2], ?_, ?_, ?_, ?_, ?_, ?_⟩ <;> simp [World.cell?, World.frozen?, h, hs]
theorem block_apart {w : World} {b g : Nat} {cs : Array Value} {t e : TypeId} {B s n m c : Nat} {xs : List Value} (h : w.heap[b]? = some (.cells cs t (0, 0))) (ho : w.ownsRow B e s (.slice (some ⟨g, 0, none⟩) m c) n xs) (hne : e ≠ t) : g ≠ b := by
  rintro rfl
  obtain ⟨_, ⟨h1, _⟩ | ⟨g', c', cur', h1, _, hh, _⟩⟩ := ho
  · cases h1
  · cases h1
    rw [h] at hh
    cases hh
    exact hne rfl
theorem three_set {w2 : World} {b : Nat} {x y z p q r : Value} (b0 : w2.cell? ⟨b, 0, none⟩ = some p) (b1 : w2.cell? ⟨b, 1, none⟩ = some q) (b2 : w2.cell? ⟨b, 2, none⟩ = some r) :
    (((w2.setCell ⟨b, 0, none⟩ x).setCell ⟨b, 1, none⟩ y).setCell ⟨b, 2, none⟩ z).cell? ⟨b, 0, none⟩ = some x ∧ (((w2.setCell ⟨b, 0, none⟩ x).setCell ⟨b, 1, none⟩ y).setCell ⟨b, 2, none⟩ z).cell? ⟨b, 1, none⟩ = some y ∧ (((w2.setCell ⟨b, 0, none⟩ x).setCell ⟨b, 1, none⟩ y).setCell ⟨b, 2, none⟩ z).cell? ⟨b, 2, none⟩ = some z := by
  refine ⟨?_, ?_, ?_⟩
  · rw [World.cell?_setCell_other _ _ _ _ (by intro e; simp at e), World.cell?_setCell_other _ _ _ _ (by intro e; simp at e)]; exact World.cell?_setCell_same _ _ _ b0
  · rw [World.cell?_setCell_other _ _ _ _ (by intro e; simp at e)]; exact World.cell?_setCell_same _ _ _ (by rw [World.cell?_setCell_other _ _ _ _ (by intro e; simp at e)]; exact b1)
  · exact World.cell?_setCell_same _ _ _ (by rw [World.cell?_setCell_other _ _ _ _ (by intro e; simp at e), World.cell?_setCell_other _ _ _ _ (by intro e; simp at e)]; exact b2)

end

section
open Go.RowKit Go.Shelf
attribute [local go_sem] Oper.semAt_some

/-- an index of one's own, with an error beside it -/
def FreshIx2 (w : World) (L : Int) (ms cs : List Int) (x : Value) (e : Ending) (w' : World) : Prop :=
  ∃ v u, e = .returned (.tuple #[.agg #[.int .i64 L, v, u], x]) ∧ w'.ownsRow w.heap.size 2 1 v ms.length (ms.map (Value.int .i64)) ∧ w'.ownsRow w.heap.size 3 1 u cs.length (cs.map (Value.int .i64)) ∧ Below w.heap.size w w'

end
end Go.Proofs.Ytbmibaafkgleeaa
