/- Facts of what a drawn region's operations leave: indexes, gapped arrays, boxes. -/
import Derived.Test.YtjhpblejlchhjaaGreatIdxM
import Derived.Test.YtjhpblejlchhjaaGreatSlTw
namespace Go.Proofs.YtjhpblejlchhjaaGreat
set_option maxRecDepth 100000
set_option maxHeartbeats 4000000
open Go.RowKit
set_option linter.unusedVariables false
set_option linter.unusedSimpArgs false

abbrev RB : World → World → Prop := fun w w' => Below w.heap.size w w'
def FactR.sl (base : Nat) (c : SlC) : FactR RB :=
  ⟨fun v w => ∃ v1 v2 v3 v4, v = .agg #[.int .i64 c.seg, v1, v2, v3, v4, .int .u64 c.laid] ∧ w.ownsRow base 27 1 v1 c.ws.length (c.ws.map (Value.int .u64)) ∧ w.ownsRow base 2 1 v2 c.ks.length (c.ks.map (Value.int .i64)) ∧ w.ownsRow base 2 1 v3 c.vs.length (c.vs.map (Value.int .i64)) ∧ w.ownsRow base 3 1 v4 c.cs.length (c.cs.map (Value.int .i64)),
    fun _ _ _ h ⟨v1, v2, v3, v4, e, h1, h2, h3, h4⟩ => ⟨v1, v2, v3, v4, e, owns_below h1 h, owns_below h2 h, owns_below h3 h, owns_below h4 h⟩⟩
def FactR.box (base : Nat) (t : TypeId) (n : Nat) : FactR RB :=
  ⟨fun v w => ∃ b cs, v = .pointer (some ⟨b, 0, none⟩) ∧ base ≤ b ∧ w.heap[b]? = some (.cells cs t (0, 0)) ∧ cs.size = n, fun _ _ _ h ⟨b, cs, e, hb, hh, hn⟩ => ⟨b, cs, e, hb, (h.block b (Array.getElem?_eq_some_iff.1 hh).1).trans hh, hn⟩⟩
end Go.Proofs.YtjhpblejlchhjaaGreat
