/- Where a node stands in the layout of van Emde Boas: plain facts, no program. -/
import Derived.Test.YtookgoidlnlckaaVebPlain
import Derived.Test.YtookgoidlnlckaaHeapH
namespace Go.Proofs.Ytookgoidlnlckaa
set_option linter.unusedVariables false
set_option linter.unusedSimpArgs false

end Go.Proofs.Ytookgoidlnlckaa
