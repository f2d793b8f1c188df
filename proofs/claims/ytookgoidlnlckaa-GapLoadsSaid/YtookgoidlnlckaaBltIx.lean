/- Merged: BuildIx, BuildIxs. -/
import Derived.Test.YtookgoidlnlckaaBlt18
import Derived.Test.YtookgoidlnlckaaIdxRd
import Derived.Test.YtookgoidlnlckaaBitFits
import Derived.Test.YtookgoidlnlckaaSeekAll
import Derived.Test.YtookgoidlnlckaaInvL
import Derived.Test.YtookgoidlnlckaaIdxEq
namespace Go.Proofs.Ytookgoidlnlckaa
set_option linter.unusedVariables false
set_option linter.unusedSimpArgs false
section
open Go.RowKit Go.Shelf
attribute [local go_sem] Oper.semAt_some

/-- facts that stay under a relation of one's own -/
structure FactR (R : World → World → Prop) where
  holds : Value → World → Prop
  stays : ∀ v w w', R w w' → holds v w → holds v w'
def FactR.any (R : World → World → Prop) : FactR R := ⟨fun _ _ => True, fun _ _ _ _ _ => trivial⟩
def FactR.is {R : World → World → Prop} (x : Value) : FactR R := ⟨fun v _ => v = x, fun _ _ _ _ h => h⟩
def FactR.now {R : World → World → Prop} (S : World → Prop) (h : ∀ w w', R w w' → S w → S w') : FactR R := ⟨fun _ w => S w, fun _ w w' hr h1 => h w w' hr h1⟩
def factRAt {R : World → World → Prop} (fs : List (FactR R)) (k : Nat) (v : Value) (w : World) : Prop := (fs.getD k (FactR.any R)).holds v w
theorem factRAt_stays {R : World → World → Prop} (fs : List (FactR R)) (k : Nat) (v : Value) (w w' : World) (h : R w w') : factRAt fs k v w → factRAt fs k v w' := (fs.getD k (FactR.any R)).stays _ _ _ h
/-- but for the block g all is as in X; the block g is as it was, or as it shall be -/
def JB (g : Nat) (X : World) (old new : World → Prop) (w' : World) : Prop := (∀ q, q ≠ g → w'.heap[q]? = X.heap[q]?) ∧ w'.heap.size = X.heap.size ∧ (w'.os = X.os ∧ w'.tape = X.tape ∧ w'.output = X.output) ∧ (old w' ∨ new w')
/-- what the nodes from above n on tell -/
def dn (f : Nat → Int) (n : Nat) : Nat → Int := fun m => if n < m then f m else 0
end

section
open Go.RowKit Go.Shelf
attribute [local go_sem] Oper.semAt_some

end
end Go.Proofs.Ytookgoidlnlckaa
