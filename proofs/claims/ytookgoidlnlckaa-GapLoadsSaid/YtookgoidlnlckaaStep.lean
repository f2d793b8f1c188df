/- Small steps between worlds. -/
import Derived.Test.YtookgoidlnlckaaLib
namespace Go.Proofs.Ytookgoidlnlckaa
open Go.RowKit
set_option linter.unusedVariables false
set_option linter.unusedSimpArgs false

theorem below_via {n m : Nat} {w W w' : World} (h : Below m W w') (h1 : Below n w W) (h2 : n ≤ m) : Below n w w' := h1.trans (h.mono h2)

end Go.Proofs.Ytookgoidlnlckaa
