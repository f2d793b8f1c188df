/- Merged: Flat, IdxPlain. -/
import Derived.Test.YtmnlagmmbfjbeaaGreatDoorRowAll
import Derived.Test.YtmnlagmmbfjbeaaGreatDoorVbA
namespace Go.Proofs.YtmnlagmmbfjbeaaGreatDoor
set_option linter.unusedVariables false
set_option linter.unusedSimpArgs false
section
open Go.RowKit

variable {a b c a' b' c' : Nat → Int} {M i : Nat} {v : Int}
end

section
open Go.RowKit

/-- what a node says by itself -/
def ownB (m c : Int) : Bool := decide (0 ≤ c) && decide (c ≤ 65536) && (decide (c ≠ 0) || decide (m = 0))
/-- what the node above two tells -/
def abM (am bm bc : Int) : Int := if 0 < bc then bm else am
def abC (ac bc : Int) : Int := if 0 < bc then ac + bc else ac
def joinR (m c am ac bm bc : Int) : Bool := decide (0 ≤ ac) && decide (0 ≤ bc) && decide (ac ≤ c) && decide (bc = c - ac) && (decide (m = abM am bm bc) && decide (c = abC ac bc)) && (decide (ac = 0) || decide (bc = 0) || decide (am < bm))
def ixFit (l : Int) (ms cs : List Int) : Prop := 1 ≤ l ∧ l ≤ 14 ∧ ms.length = 2 ^ l.toNat - 1 ∧ cs.length = 2 ^ l.toNat - 1
instance (l : Int) (ms cs : List Int) : Decidable (ixFit l ms cs) := by unfold ixFit; infer_instance
end
end Go.Proofs.YtmnlagmmbfjbeaaGreatDoor
