/- The walk of mend.Fit. -/
import Derived.Test.YtbmibaafkgleeaaWndF
import Derived.Test.YtbmibaafkgleeaaTurnA
namespace Go.Proofs.Ytbmibaafkgleeaa
open Go.RowKit Go.Shelf
set_option linter.unusedVariables false
set_option linter.unusedSimpArgs false

end Go.Proofs.Ytbmibaafkgleeaa
