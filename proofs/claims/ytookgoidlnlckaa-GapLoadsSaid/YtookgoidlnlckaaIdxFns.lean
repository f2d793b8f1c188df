/- Walks of the small functions on indexes: Great, above (both), right, Same (both), spoil. -/
import Derived.Test.YtookgoidlnlckaaIdxPlain
import Derived.Test.YtookgoidlnlckaaRowAll
import Derived.Test.YtookgoidlnlckaaIdxTwin
namespace Go.Proofs.Ytookgoidlnlckaa
open Go.RowKit
set_option linter.unusedVariables false
set_option linter.unusedSimpArgs false

end Go.Proofs.Ytookgoidlnlckaa
