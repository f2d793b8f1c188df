/- Facts of what a drawn region's operations leave: indexes, gapped arrays, boxes. -/
import Derived.Test.YtbmibaafkgleeaaBltIx
import Derived.Test.YtbmibaafkgleeaaSlTw
namespace Go.Proofs.Ytbmibaafkgleeaa
open Go.RowKit
set_option linter.unusedVariables false
set_option linter.unusedSimpArgs false

abbrev RB : World → World → Prop := fun w w' => Below w.heap.size w w'
def FactR.ix (base : Nat) (l : Int) (ms cs : List Int) : FactR RB :=
  ⟨fun v w => ∃ x y, v = .agg #[.int .i64 l, x, y] ∧ w.ownsRow base 2 1 x ms.length (ms.map (Value.int .i64)) ∧ w.ownsRow base 3 1 y cs.length (cs.map (Value.int .i64)), fun _ _ _ h ⟨x, y, e, h1, h2⟩ => ⟨x, y, e, owns_below h1 h, owns_below h2 h⟩⟩
def FactR.sl (base : Nat) (c : SlC) : FactR RB :=
  ⟨fun v w => ∃ v1 v2 v3 v4, v = .agg #[.int .i64 c.seg, v1, v2, v3, v4, .int .u64 c.laid] ∧ w.ownsRow base 27 1 v1 c.ws.length (c.ws.map (Value.int .u64)) ∧ w.ownsRow base 2 1 v2 c.ks.length (c.ks.map (Value.int .i64)) ∧ w.ownsRow base 2 1 v3 c.vs.length (c.vs.map (Value.int .i64)) ∧ w.ownsRow base 3 1 v4 c.cs.length (c.cs.map (Value.int .i64)),
    fun _ _ _ h ⟨v1, v2, v3, v4, e, h1, h2, h3, h4⟩ => ⟨v1, v2, v3, v4, e, owns_below h1 h, owns_below h2 h, owns_below h3 h, owns_below h4 h⟩⟩
def FactR.box (base : Nat) (t : TypeId) (n : Nat) : FactR RB :=
  ⟨fun v w => ∃ b cs, v = .pointer (some ⟨b, 0, none⟩) ∧ base ≤ b ∧ w.heap[b]? = some (.cells cs t (0, 0)) ∧ cs.size = n, fun _ _ _ h ⟨b, cs, e, hb, hh, hn⟩ => ⟨b, cs, e, hb, (h.block b (Array.getElem?_eq_some_iff.1 hh).1).trans hh, hn⟩⟩
theorem box_six {w : World} {b : Nat} {cs : Array Value} {t : TypeId} (h : w.heap[b]? = some (.cells cs t (0, 0))) (hs : cs.size = 6) :
    ∃ x y z p q r, w.cell? ⟨b, 0, none⟩ = some x ∧ w.cell? ⟨b, 1, none⟩ = some y ∧ w.cell? ⟨b, 2, none⟩ = some z ∧ w.cell? ⟨b, 3, none⟩ = some p ∧ w.cell? ⟨b, 4, none⟩ = some q ∧ w.cell? ⟨b, 5, none⟩ = some r ∧ ∀ i, w.frozen? ⟨b, i, none⟩ = false := by
  refine ⟨cs[0], cs[1], cs[2], cs[3], cs[4], cs[5], ?_, ?_, ?_, ?_, ?_, ?_, fun i => ?_⟩ <;> simp [World.cell?, World.frozen?, h, hs]
theorem row_apart {w : World} {b : Nat} {cs : Array Value} {t e : TypeId} {B s n : Nat} {v : Value} {xs : List Value} (h : w.heap[b]? = some (.cells cs t (0, 0))) (ho : w.ownsRow B e s v n xs) (hne : e ≠ t) : ∀ k, v.ownBlock = some k → k ≠ b := by
  intro k hk
  obtain ⟨_, ⟨rfl, _⟩ | ⟨g', c', cur', rfl, _, hh, _⟩⟩ := ho
  · cases hk
  · cases hk
    exact fun e => by subst e; rw [h] at hh; cases hh; exact hne rfl
end Go.Proofs.Ytbmibaafkgleeaa
