/- Merged: IdxTwin, IdxFns. -/
import Derived.Test.YtmnlagmmbfjbeaaGreatDoorInvFc
import Derived.Test.YtmnlagmmbfjbeaaGreatDoorMLS
import Derived.Test.YtmnlagmmbfjbeaaGreatDoorFlI
import Derived.Test.YtmnlagmmbfjbeaaGreatDoorRowAll
namespace Go.Proofs.YtmnlagmmbfjbeaaGreatDoor
set_option linter.unusedVariables false
set_option linter.unusedSimpArgs false
section
open Go.RowKit

end

section
open Go.RowKit

end
end Go.Proofs.YtmnlagmmbfjbeaaGreatDoor
