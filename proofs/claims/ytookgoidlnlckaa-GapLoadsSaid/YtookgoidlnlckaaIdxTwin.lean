/- The walk of the reference's Twin of an index. -/
import Derived.Test.YtookgoidlnlckaaInvFc
import Derived.Test.YtookgoidlnlckaaStep
namespace Go.Proofs.Ytookgoidlnlckaa
open Go.RowKit
set_option linter.unusedVariables false
set_option linter.unusedSimpArgs false

end Go.Proofs.Ytookgoidlnlckaa
