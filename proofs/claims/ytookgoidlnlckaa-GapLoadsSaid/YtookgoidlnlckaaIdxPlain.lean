/- What an index is, in plain words. No function of the program is walked here. -/
import Derived.Test.YtookgoidlnlckaaVebPlain
import Derived.Test.YtookgoidlnlckaaFlat
namespace Go.Proofs.Ytookgoidlnlckaa
open Go.RowKit
set_option linter.unusedVariables false
set_option linter.unusedSimpArgs false

def ixFit (l : Int) (ms cs : List Int) : Prop := 1 ≤ l ∧ l ≤ 14 ∧ ms.length = 2 ^ l.toNat - 1 ∧ cs.length = 2 ^ l.toNat - 1
instance (l : Int) (ms cs : List Int) : Decidable (ixFit l ms cs) := by unfold ixFit; infer_instance
end Go.Proofs.Ytookgoidlnlckaa
