/- Merged: InvEff, EffFact. -/
import Derived.Test.YtbmibaafkgleeaaSlPut
import Derived.Test.YtbmibaafkgleeaaIdxFacts
namespace Go.Proofs.Ytbmibaafkgleeaa
set_option linter.unusedVariables false
set_option linter.unusedSimpArgs false
section
open Go.RowKit
section
variable {P : Program} {ops : Array Oper} {Q : Exit → Act → World → Prop}

def OpsOkE (P : Program) (ops : Array Oper) (Q : Exit → Act → World → Prop) (D : List Nat) (t0 : Array Value) (n : Nat) (ds : List Deferred) (J : World → Prop) (Ext : Nat → World → World → Prop) (G : Nat → (Nat → Value) → World → Prop) : Nat → List Oper → Prop
  | _, [] => True
  | k, o :: rest => OpOkR P ops Q D t0 n ds J (Ext k) G k o ∧ OpsOkE P ops Q D t0 n ds J Ext G (k + 1) rest
theorem OpsOkE.at {D : List Nat} {t0 : Array Value} {n : Nat} {ds : List Deferred} {J : World → Prop} {Ext : Nat → World → World → Prop} {G : Nat → (Nat → Value) → World → Prop} : ∀ {l : List Oper} {k : Nat}, OpsOkE P ops Q D t0 n ds J Ext G k l → ∀ {i : Nat} {o : Oper}, l[i]? = some o → OpOkR P ops Q D t0 n ds J (Ext (k + i)) G (k + i) o
  | [], _, _, i, o, ho => by simp at ho
  | x :: rest, k, h, 0, o, ho => by simp at ho; subst ho; exact h.1
  | x :: rest, k, h, i + 1, o, ho => by
    have := OpsOkE.at h.2 (i := i) (o := o) (by simpa using ho)
    rwa [Nat.add_assoc, Nat.add_comm 1 i] at this

end
end

section
open Go.RowKit

/-- one block of the type t is written over -/
def StT (t : TypeId) (w w' : World) : Prop := ∃ (b : Nat) (cs cs' : Array Value), w.heap[b]? = some (Obj.cells cs t (0, 0)) ∧ w'.heap[b]? = some (Obj.cells cs' t (0, 0)) ∧ cs'.size = cs.size ∧ w'.heap.size = w.heap.size ∧ ∀ q, q ≠ b → w'.heap[q]? = w.heap[q]?
theorem owns_stT {t e : TypeId} {w w' : World} {B s n : Nat} {v : Value} {xs : List Value} (hs : StT t w w') (hne : e ≠ t) (h : w.ownsRow B e s v n xs) : w'.ownsRow B e s v n xs := by
  obtain ⟨b, cs, cs', h1, h2, h3, h4, h5⟩ := hs
  exact owns_heap h fun k hk => h5 k (row_apart h1 h hne k hk)
structure FactE (t : TypeId) extends FactR RB where
  bears : ∀ v w w', StT t w w' → holds v w → holds v w'
def FactE.any (t : TypeId) : FactE t := ⟨FactR.any RB, fun _ _ _ _ _ => trivial⟩
def FactE.is {t : TypeId} (x : Value) : FactE t := ⟨FactR.is x, fun _ _ _ _ h => h⟩
def FactE.ix (base : Nat) (l : Int) (ms cs : List Int) : FactE 25 :=
  ⟨FactR.ix base l ms cs, fun _ _ _ h ⟨x, y, e, h1, h2⟩ => ⟨x, y, e, owns_stT h (by decide) h1, owns_stT h (by decide) h2⟩⟩
def FactE.sl (base : Nat) (c : SlC) : FactE 25 :=
  ⟨FactR.sl base c, fun _ _ _ h ⟨v1, v2, v3, v4, e, h1, h2, h3, h4⟩ => ⟨v1, v2, v3, v4, e, owns_stT h (by decide) h1, owns_stT h (by decide) h2, owns_stT h (by decide) h3, owns_stT h (by decide) h4⟩⟩
def FactE.box (base : Nat) (t : TypeId) (n : Nat) : FactE t :=
  ⟨FactR.box base t n, fun v w w' h ⟨b, cs, e, hb, hh, hn⟩ => by
    obtain ⟨b', c0, c1, h1, h2, h3, h4, h5⟩ := h
    by_cases eb : b = b'
    · subst eb
      rw [h1] at hh
      cases hh
      exact ⟨b, c1, e, hb, h2, h3.trans hn⟩
    · exact ⟨b, cs, e, hb, (h5 b eb).trans hh, hn⟩⟩

end
end Go.Proofs.Ytbmibaafkgleeaa
