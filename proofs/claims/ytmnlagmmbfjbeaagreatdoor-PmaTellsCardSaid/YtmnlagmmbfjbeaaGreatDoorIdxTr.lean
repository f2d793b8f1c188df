/- Merged: IdxTree, IdxLeaf, Tree18. -/
import Derived.Test.YtmnlagmmbfjbeaaGreatDoorFlI
import Derived.Test.YtmnlagmmbfjbeaaGreatDoorVbA
import Derived.Test.YtmnlagmmbfjbeaaGreatDoorPrsAll
import Derived.Test.YtmnlagmmbfjbeaaGreatDoorSeekAll
import Derived.Test.YtmnlagmmbfjbeaaGreatDoorIdxTF
import Derived.Test.YtmnlagmmbfjbeaaGreatDoorOfMy
import Derived.Test.YtmnlagmmbfjbeaaGreatDoorHeapH
namespace Go.Proofs.YtmnlagmmbfjbeaaGreatDoor
set_option linter.unusedVariables false
set_option linter.unusedSimpArgs false
section
open Go.RowKit

theorem seekE_may {c : SlC} (h : seekE c = 0) : slMay c = true := by
  unfold seekE at h
  split at h
  · assumption
  · cases h
end

section
open Go.RowKit

end

section
open Go.RowKit Go.Shelf
attribute [local go_sem] Oper.semAt_some

end
end Go.Proofs.YtmnlagmmbfjbeaaGreatDoor
