/- The walk of the reference 04: May. -/
import Derived.Test.YtbmibaafkgleeaaSlRef
namespace Go.Proofs.Ytbmibaafkgleeaa
open Go.RowKit
set_option linter.unusedVariables false
set_option linter.unusedSimpArgs false

end Go.Proofs.Ytbmibaafkgleeaa
