/- Merged: VebPlain, VebPos. -/
import Derived.Test.YtmnlagmmbfjbeaaGreatDoorHeapH
namespace Go.Proofs.YtmnlagmmbfjbeaaGreatDoor
set_option linter.unusedVariables false
set_option linter.unusedSimpArgs false
section

def lay (L r : Nat) : List Nat :=
  if h : L ≤ 1 then [r] else lay (L / 2) r ++ (List.range (2 ^ (L / 2))).flatMap fun i => lay (L - L / 2) (r * 2 ^ (L / 2) + i)
termination_by L
decreasing_by all_goals omega

end

section

end
end Go.Proofs.YtmnlagmmbfjbeaaGreatDoor
