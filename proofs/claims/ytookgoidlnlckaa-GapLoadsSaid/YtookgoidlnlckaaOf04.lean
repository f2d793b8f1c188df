/- The walk of the reference 04: Of. -/
import Derived.Test.YtookgoidlnlckaaPrsAll
import Derived.Test.YtookgoidlnlckaaSlRef
namespace Go.Proofs.Ytookgoidlnlckaa
open Go.RowKit Go.Shelf
attribute [local go_sem] Oper.semAt_some
set_option linter.unusedVariables false
set_option linter.unusedSimpArgs false

/-- a row of one element that was laid -/
def Fact.laid {T : TypeId} (base : Nat) (t : TypeId) (he : t ≠ T) (vs : Array Value) : Fact T :=
  ⟨fun v w => ∃ b, v = .slice (some ⟨b, 0, none⟩) 1 1 ∧ base ≤ b ∧ w.heap[b]? = some (.cells vs t), fun _ _ _ h ⟨b, e, hb, hh⟩ => ⟨b, e, hb, h.same _ _ hh (fun cs fr e => by cases e; exact he rfl)⟩⟩
end Go.Proofs.Ytookgoidlnlckaa
