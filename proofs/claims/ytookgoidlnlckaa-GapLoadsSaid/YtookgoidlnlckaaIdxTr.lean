/- Merged: IdxTree, IdxLeaf, Tree18. -/
import Derived.Test.YtookgoidlnlckaaIdxPlain
import Derived.Test.YtookgoidlnlckaaVebPos
import Derived.Test.YtookgoidlnlckaaPrsAll
import Derived.Test.YtookgoidlnlckaaSeekAll
import Derived.Test.YtookgoidlnlckaaIdxFns
import Derived.Test.YtookgoidlnlckaaOf04
import Derived.Test.YtookgoidlnlckaaHeapH
namespace Go.Proofs.Ytookgoidlnlckaa
set_option linter.unusedVariables false
set_option linter.unusedSimpArgs false
section
open Go.RowKit

end

section
open Go.RowKit

end

section
open Go.RowKit Go.Shelf
attribute [local go_sem] Oper.semAt_some

end
end Go.Proofs.Ytookgoidlnlckaa
