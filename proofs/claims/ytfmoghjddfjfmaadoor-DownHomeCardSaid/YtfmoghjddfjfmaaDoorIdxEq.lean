/- Merged: RowEq, IdxSame. -/
import Derived.Test.YtfmoghjddfjfmaaDoorRowIx
import Derived.Test.YtfmoghjddfjfmaaDoorIdxFns
namespace Go.Proofs.YtfmoghjddfjfmaaDoor
set_option linter.unusedVariables false
set_option linter.unusedSimpArgs false
section
open Go.RowKit

end

section
open Go.RowKit

end
end Go.Proofs.YtfmoghjddfjfmaaDoor
