/- Merged: IdxNodes, IdxRead, IdxAll. -/
import Derived.Test.YtookgoidlnlckaaIdxPlain
import Derived.Test.YtookgoidlnlckaaVebRT
import Derived.Test.YtookgoidlnlckaaIdxFns
namespace Go.Proofs.Ytookgoidlnlckaa
set_option linter.unusedVariables false
set_option linter.unusedSimpArgs false
section
open Go.RowKit

end

section
open Go.RowKit

end

section
open Go.RowKit

end
end Go.Proofs.Ytookgoidlnlckaa
