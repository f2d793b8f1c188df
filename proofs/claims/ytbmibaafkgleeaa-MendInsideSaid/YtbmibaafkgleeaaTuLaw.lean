/- What a window of none, and one around all that was turned, tell: plain words. No function of the program is walked here. -/
import Derived.Test.YtbmibaafkgleeaaMendFit
namespace Go.Proofs.Ytbmibaafkgleeaa
open Go.RowKit
set_option linter.unusedVariables false
set_option linter.unusedSimpArgs false

theorem tu_same {c d : SlC} (e1 : tuE c d = 0) : c.seg = d.seg ∧ c.ks.length = d.ks.length := by
  unfold tuE at e1
  split at e1
  · split at e1
    · split at e1
      · assumption
      · cases e1
    · cases e1
  · cases e1
end Go.Proofs.Ytbmibaafkgleeaa
