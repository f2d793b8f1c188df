/- The walk of the reference 16: First. -/
import Derived.Test.YtelckhfmchnpnaaDoorHeap
import Derived.Test.YtelckhfmchnpnaaDoorHeapPlain
namespace Go.Proofs.YtelckhfmchnpnaaDoor
open Go.RowKit
set_option linter.unusedVariables false
set_option linter.unusedSimpArgs false

end Go.Proofs.YtelckhfmchnpnaaDoor
