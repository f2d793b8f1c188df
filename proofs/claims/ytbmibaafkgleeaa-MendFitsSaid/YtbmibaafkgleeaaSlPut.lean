/- Merged: SlNew, InvRel, SlTwin, SlTake, SlTakeOk, SlLay, SlLayOk, SlFill, ChapL. -/
import Derived.Test.YtbmibaafkgleeaaIdxFacts
import Derived.Test.YtbmibaafkgleeaaInvL
namespace Go.Proofs.Ytbmibaafkgleeaa
set_option linter.unusedVariables false
set_option linter.unusedSimpArgs false
section
open Go.RowKit Go.Shelf
attribute [local go_sem] Oper.semAt_some

/-- a row of one's own, whole -/
def FactR.own (base : Nat) (e : TypeId) (n : Nat) (xs : List Value) : FactR RB :=
  ⟨fun v w => ∃ g, v = .slice (some ⟨g, 0, none⟩) n n ∧ w.ownsRow base e 1 (.slice (some ⟨g, 0, none⟩) n n) n xs, fun _ _ _ h ⟨g, e1, k⟩ => ⟨g, e1, owns_below k h⟩⟩
end

section
open Go.RowKit
section
variable {P : Program} {ops : Array Oper} {Q : Exit → Act → World → Prop}

def updR (u : Nat → Value) (o : Oper) (v : Value) : Nat → Value := match o.dst with | some d => fun t => if t = d then v else u t | none => u
/-- what is owed of one operation -/
def OpOkR (P : Program) (ops : Array Oper) (Q : Exit → Act → World → Prop) (D : List Nat) (t0 : Array Value) (n : Nat) (ds : List Deferred) (J : World → Prop) (Ext : World → World → Prop) (G : Nat → (Nat → Value) → World → Prop) (k : Nat) (o : Oper) : Prop :=
  ∀ (u : Nat → Value) (a : Act) (w : World), (∀ t, t < n → a.tmps.getD t undef = mixAt D u t0 t) → J w →
    (∀ (j : Nat) (p : Oper), (o.after.any fun e => Region.binds .any e && e.on == j) = true → ops[j]? = some p → G j u w) →
    ∀ K : Act → World → Prop, (∀ v w', (o.dst = none → v = undef) → J w' → G k (updR u o v) w' → Ext w w' → K (a.put o.dst v) w') → Oper.wp P o a w K Q
def OpsOkR (P : Program) (ops : Array Oper) (Q : Exit → Act → World → Prop) (D : List Nat) (t0 : Array Value) (n : Nat) (ds : List Deferred) (J : World → Prop) (Ext : World → World → Prop) (G : Nat → (Nat → Value) → World → Prop) : Nat → List Oper → Prop
  | _, [] => True
  | k, o :: rest => OpOkR P ops Q D t0 n ds J Ext G k o ∧ OpsOkR P ops Q D t0 n ds J Ext G (k + 1) rest
theorem OpsOkR.at {D : List Nat} {t0 : Array Value} {n : Nat} {ds : List Deferred} {J : World → Prop} {Ext : World → World → Prop} {G : Nat → (Nat → Value) → World → Prop} : ∀ {l : List Oper} {k : Nat}, OpsOkR P ops Q D t0 n ds J Ext G k l → ∀ {i : Nat} {o : Oper}, l[i]? = some o → OpOkR P ops Q D t0 n ds J Ext G (k + i) o
  | [], _, _, i, o, ho => by simp at ho
  | x :: rest, k, h, 0, o, ho => by simp at ho; subst ho; exact h.1
  | x :: rest, k, h, i + 1, o, ho => by
    have := OpsOkR.at h.2 (i := i) (o := o) (by simpa using ho)
    rwa [Nat.add_assoc, Nat.add_comm 1 i] at this

end
end

section
open Go.RowKit Go.Shelf
attribute [local go_sem] Oper.semAt_some

/-- a row of one's own -/
def FactR.row (base : Nat) (e : TypeId) (n : Nat) (xs : List Value) : FactR RB := ⟨fun v w => w.ownsRow base e 1 v n xs, fun _ _ _ h k => owns_below k h⟩

end

section
open Go.RowKit Go.Shelf
attribute [local go_sem] Oper.semAt_some

/-- but for four blocks all that was there stays -/
structure KeptA (g1 g2 g3 g4 : Nat) (w W : World) : Prop where
  os : W.os = w.os
  tape : W.tape = w.tape
  output : W.output = w.output
  size : w.heap.size ≤ W.heap.size
  block : ∀ q, q < w.heap.size → q ≠ g1 → q ≠ g2 → q ≠ g3 → q ≠ g4 → W.heap[q]? = w.heap[q]?
theorem KeptA.below {g1 g2 g3 g4 : Nat} {w W : World} (h : Below w.heap.size w W) : KeptA g1 g2 g3 g4 w W := ⟨h.os, h.tape, h.output, h.size, fun q hq _ _ _ _ => h.block q hq⟩
theorem KeptA.step {g1 g2 g3 g4 : Nat} {w W W' : World} (h : KeptA g1 g2 g3 g4 w W) (h0 : W'.heap.size = W.heap.size) (h1 : W'.os = W.os) (h2 : W'.tape = W.tape) (h3 : W'.output = W.output) (hb : ∀ q, q < w.heap.size → q ≠ g1 → q ≠ g2 → q ≠ g3 → q ≠ g4 → W'.heap[q]? = W.heap[q]?) : KeptA g1 g2 g3 g4 w W' :=
  ⟨h1.trans h.os, h2.trans h.tape, h3.trans h.output, by rw [h0]; exact h.size, fun q hq a b c d => (hb q hq a b c d).trans (h.block q hq a b c d)⟩
/-- a gapped array in a box, on rows of its own -/
structure ArrOn (B : Nat) (W : World) (b g1 g2 g3 g4 k1 k2 k3 k4 lw n lc : Nat) (seg laid : Int) (ws ks vs cs : List Int) : Prop where
  c0 : W.cell? ⟨b, 0, none⟩ = some (.int .i64 seg)
  c1 : W.cell? ⟨b, 1, none⟩ = some (.slice (some ⟨g1, 0, none⟩) lw k1)
  c2 : W.cell? ⟨b, 2, none⟩ = some (.slice (some ⟨g2, 0, none⟩) n k2)
  c3 : W.cell? ⟨b, 3, none⟩ = some (.slice (some ⟨g3, 0, none⟩) n k3)
  c4 : W.cell? ⟨b, 4, none⟩ = some (.slice (some ⟨g4, 0, none⟩) lc k4)
  c5 : W.cell? ⟨b, 5, none⟩ = some (.int .u64 laid)
  f5 : W.frozen? ⟨b, 5, none⟩ = false
  o1 : W.ownsRow B 27 1 (.slice (some ⟨g1, 0, none⟩) lw k1) lw ((ws).map (Value.int .u64))
  o2 : W.ownsRow B 2 1 (.slice (some ⟨g2, 0, none⟩) n k2) n ((ks).map (Value.int .i64))
  o3 : W.ownsRow B 2 1 (.slice (some ⟨g3, 0, none⟩) n k3) n ((vs).map (Value.int .i64))
  o4 : W.ownsRow B 3 1 (.slice (some ⟨g4, 0, none⟩) lc k4) lc ((cs).map (Value.int .i64))

end

section
open Go.RowKit

end

section
open Go.RowKit Go.Shelf
attribute [local go_sem] Oper.semAt_some

/-- but for five blocks all that was there stays -/
structure Kept5 (b g1 g2 g3 g4 : Nat) (w W : World) : Prop where
  os : W.os = w.os
  tape : W.tape = w.tape
  output : W.output = w.output
  size : w.heap.size ≤ W.heap.size
  block : ∀ q, q < w.heap.size → q ≠ b → q ≠ g1 → q ≠ g2 → q ≠ g3 → q ≠ g4 → W.heap[q]? = w.heap[q]?
theorem Kept5.of {b g1 g2 g3 g4 : Nat} {w W W' : World} (h : Below w.heap.size w W) (k : KeptA g1 g2 g3 g4 W W') : Kept5 b g1 g2 g3 g4 w W' :=
  ⟨k.os.trans h.os, k.tape.trans h.tape, k.output.trans h.output, Nat.le_trans h.size k.size, fun q hq _ h1 h2 h3 h4 => (k.block q (Nat.lt_of_lt_of_le hq h.size) h1 h2 h3 h4).trans (h.block q hq)⟩
theorem Kept5.step {b g1 g2 g3 g4 : Nat} {w W W' : World} (h : Kept5 b g1 g2 g3 g4 w W) (h0 : W'.heap.size = W.heap.size) (h1 : W'.os = W.os) (h2 : W'.tape = W.tape) (h3 : W'.output = W.output) (hb : ∀ q, q < w.heap.size → q ≠ b → q ≠ g1 → q ≠ g2 → q ≠ g3 → q ≠ g4 → W'.heap[q]? = W.heap[q]?) : Kept5 b g1 g2 g3 g4 w W' :=
  ⟨h1.trans h.os, h2.trans h.tape, h3.trans h.output, by rw [h0]; exact h.size, fun q hq z a b c d => (hb q hq z a b c d).trans (h.block q hq z a b c d)⟩

end

section
open Go.RowKit

theorem ArrOn.blocks {B : Nat} {W : World} {b g1 g2 g3 g4 k1 k2 k3 k4 lw n lc : Nat} {seg laid : Int} {ws ks vs cs : List Int} (h : ArrOn B W b g1 g2 g3 g4 k1 k2 k3 k4 lw n lc seg laid ws ks vs cs) : b < W.heap.size ∧ g1 < W.heap.size ∧ g2 < W.heap.size ∧ g3 < W.heap.size ∧ g4 < W.heap.size :=
  ⟨World.block_lt_of_cell? _ _ h.c0, (h.o1.lt g1 rfl).2, (h.o2.lt g2 rfl).2, (h.o3.lt g3 rfl).2, (h.o4.lt g4 rfl).2⟩
theorem ArrOn.below {B : Nat} {W W' : World} {b g1 g2 g3 g4 k1 k2 k3 k4 lw n lc : Nat} {seg laid : Int} {ws ks vs cs : List Int} (h : ArrOn B W b g1 g2 g3 g4 k1 k2 k3 k4 lw n lc seg laid ws ks vs cs) (hb : Below W.heap.size W W') : ArrOn B W' b g1 g2 g3 g4 k1 k2 k3 k4 lw n lc seg laid ws ks vs cs := by
  have hl := h.blocks.1
  exact ⟨(hb.cell (p := ⟨b, 0, none⟩) hl).trans h.c0, (hb.cell (p := ⟨b, 1, none⟩) hl).trans h.c1, (hb.cell (p := ⟨b, 2, none⟩) hl).trans h.c2, (hb.cell (p := ⟨b, 3, none⟩) hl).trans h.c3, (hb.cell (p := ⟨b, 4, none⟩) hl).trans h.c4, (hb.cell (p := ⟨b, 5, none⟩) hl).trans h.c5, (hb.frozen (p := ⟨b, 5, none⟩) hl).trans h.f5, owns_below h.o1 hb, owns_below h.o2 hb, owns_below h.o3 hb, owns_below h.o4 hb⟩
end

section
open Go.RowKit

end

section
open Go.RowKit

end
end Go.Proofs.Ytbmibaafkgleeaa
