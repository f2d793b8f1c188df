/- The walk of the reference 04: May. -/
import Derived.Test.YtbmibaafkgleeaaSlRef
namespace Go.Proofs.Ytbmibaafkgleeaa
open Go.RowKit
set_option linter.unusedVariables false
set_option linter.unusedSimpArgs false

/-- a row of so many elements -/
def Fact.len {T : TypeId} (n : Nat) : Fact T := ⟨fun v _ => ∃ a c, v = .slice a n c, fun _ _ _ _ h => h⟩

end Go.Proofs.Ytbmibaafkgleeaa
