/- Merged: VebRef, VebLaid, VebTab. -/
import Derived.Test.YtmnlagmmbfjbeaaGreatDoorHeapH
import Derived.Test.YtmnlagmmbfjbeaaGreatDoorVbA
namespace Go.Proofs.YtmnlagmmbfjbeaaGreatDoor
set_option linter.unusedVariables false
set_option linter.unusedSimpArgs false
section
open Go.RowKit

end

section
open Go.RowKit

end

section
open Go.RowKit

end
end Go.Proofs.YtmnlagmmbfjbeaaGreatDoor
