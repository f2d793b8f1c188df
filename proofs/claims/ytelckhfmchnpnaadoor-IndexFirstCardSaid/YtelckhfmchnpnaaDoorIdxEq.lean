/- Merged: RowEq, IdxSame. -/
import Derived.Test.YtelckhfmchnpnaaDoorRowIx
import Derived.Test.YtelckhfmchnpnaaDoorIdxFns
namespace Go.Proofs.YtelckhfmchnpnaaDoor
set_option linter.unusedVariables false
set_option linter.unusedSimpArgs false
section
open Go.RowKit

end

section
open Go.RowKit

end
end Go.Proofs.YtelckhfmchnpnaaDoor
