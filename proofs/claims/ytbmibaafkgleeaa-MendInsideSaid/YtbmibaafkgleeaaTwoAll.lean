/- Merged: InvTwo, Two. -/
import Derived.Test.YtbmibaafkgleeaaInvL
import Derived.Test.YtbmibaafkgleeaaIdxFacts
namespace Go.Proofs.Ytbmibaafkgleeaa
set_option linter.unusedVariables false
set_option linter.unusedSimpArgs false
section
open Go.RowKit
section
variable {P : Program} {ops : Array Oper} {Q : Exit → Act → World → Prop}

/-- what is owed of one operation: Dn: what has been done -/
def OpOk2 (P : Program) (ops : Array Oper) (Q : Exit → Act → World → Prop) (D : List Nat) (t0 : Array Value) (n : Nat) (ds : List Deferred) (J : World → Prop) (Ext : World → World → Prop) (G : Nat → Value → World → Prop) (R : Nat → Nat → Value → Value → Prop) (k : Nat) (o : Oper) : Prop :=
  ∀ (u : Nat → Value) (a : Act) (w : World), (∀ t, t < n → a.tmps.getD t undef = mixAt D u t0 t) → J w →
    (∀ (j : Nat) (p : Oper), (o.after.any fun e => Region.binds .any e && e.on == j) = true → ops[j]? = some p → G j (valOf u p) w) →
    ∀ Dn : Nat → Prop, (∀ (j : Nat) (p : Oper), Dn j → ops[j]? = some p → G j (valOf u p) w) →
    ∀ K : Act → World → Prop, (∀ v w', (o.dst = none → v = undef) → J w' → G k v w' → (∀ (j : Nat) (p : Oper), Dn j → ops[j]? = some p → R j k (valOf u p) v ∧ R k j v (valOf u p)) → Ext w w' → K (a.put o.dst v) w') → Oper.wp P o a w K Q
def OpsOk2 (P : Program) (ops : Array Oper) (Q : Exit → Act → World → Prop) (D : List Nat) (t0 : Array Value) (n : Nat) (ds : List Deferred) (J : World → Prop) (Ext : World → World → Prop) (G : Nat → Value → World → Prop) (R : Nat → Nat → Value → Value → Prop) : Nat → List Oper → Prop
  | _, [] => True
  | k, o :: rest => OpOk2 P ops Q D t0 n ds J Ext G R k o ∧ OpsOk2 P ops Q D t0 n ds J Ext G R (k + 1) rest
theorem OpsOk2.at {D : List Nat} {t0 : Array Value} {n : Nat} {ds : List Deferred} {J : World → Prop} {Ext : World → World → Prop} {G : Nat → Value → World → Prop} {R : Nat → Nat → Value → Value → Prop} : ∀ {l : List Oper} {k : Nat}, OpsOk2 P ops Q D t0 n ds J Ext G R k l → ∀ {i : Nat} {o : Oper}, l[i]? = some o → OpOk2 P ops Q D t0 n ds J Ext G R (k + i) o
  | [], _, _, i, o, ho => by simp at ho
  | x :: rest, k, h, 0, o, ho => by simp at ho; subst ho; exact h.1
  | x :: rest, k, h, i + 1, o, ho => by
    have := OpsOk2.at h.2 (i := i) (o := o) (by simpa using ho)
    rwa [Nat.add_assoc, Nat.add_comm 1 i] at this

end
end

section
open Go.RowKit

/-- two indexes, their lists in four blocks -/
def IxApart (x y : Value) : Prop := ∀ l a b l' a' b', x = .agg #[l, a, b] → y = .agg #[l', a', b'] → (∀ p q, a.ownBlock = some p → a'.ownBlock = some q → p ≠ q) ∧ (∀ p q, b.ownBlock = some p → b'.ownBlock = some q → p ≠ q)
theorem IxApart.symm {x y : Value} (h : IxApart x y) : IxApart y x := fun l a b l' a' b' h1 h2 => by
  obtain ⟨k1, k2⟩ := h _ _ _ _ _ _ h2 h1
  exact ⟨fun p q hp hq e => k1 q p hq hp e.symm, fun p q hp hq e => k2 q p hq hp e.symm⟩
end
end Go.Proofs.Ytbmibaafkgleeaa
