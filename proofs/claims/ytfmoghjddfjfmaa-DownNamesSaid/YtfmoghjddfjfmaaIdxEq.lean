/- Merged: RowEq, IdxSame. -/
import Derived.Test.YtfmoghjddfjfmaaRowIx
import Derived.Test.YtfmoghjddfjfmaaIdxFns
namespace Go.Proofs.Ytfmoghjddfjfmaa
set_option linter.unusedVariables false
set_option linter.unusedSimpArgs false
section
open Go.RowKit

end

section
open Go.RowKit

end
end Go.Proofs.Ytfmoghjddfjfmaa
