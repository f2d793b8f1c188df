/- The layout of van Emde Boas as a list of nodes: plain facts, no program. -/
namespace Go.Proofs.Ytookgoidlnlckaa
set_option linter.unusedVariables false
set_option linter.unusedSimpArgs false

def lay (L r : Nat) : List Nat :=
  if h : L ≤ 1 then [r] else lay (L / 2) r ++ (List.range (2 ^ (L / 2))).flatMap fun i => lay (L - L / 2) (r * 2 ^ (L / 2) + i)
termination_by L
decreasing_by all_goals omega

end Go.Proofs.Ytookgoidlnlckaa
