/- The walk of the reference 16: First. -/
import Derived.Test.YtfmoghjddfjfmaaDoorHeap
import Derived.Test.YtfmoghjddfjfmaaDoorHeapPlain
namespace Go.Proofs.YtfmoghjddfjfmaaDoor
open Go.RowKit
set_option linter.unusedVariables false
set_option linter.unusedSimpArgs false

end Go.Proofs.YtfmoghjddfjfmaaDoor
