/- Merged: IdxNodes, IdxRead, IdxAll. -/
import Derived.Test.YtmnlagmmbfjbeaaGreatDoorFlI
import Derived.Test.YtmnlagmmbfjbeaaGreatDoorVebRT
import Derived.Test.YtmnlagmmbfjbeaaGreatDoorIdxTF
namespace Go.Proofs.YtmnlagmmbfjbeaaGreatDoor
set_option linter.unusedVariables false
set_option linter.unusedSimpArgs false
section
open Go.RowKit

end

section
open Go.RowKit

end

section
open Go.RowKit

end
end Go.Proofs.YtmnlagmmbfjbeaaGreatDoor
