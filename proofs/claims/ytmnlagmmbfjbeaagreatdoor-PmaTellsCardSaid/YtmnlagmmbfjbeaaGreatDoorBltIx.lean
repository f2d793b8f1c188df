/- Merged: BuildIx, BuildIxs. -/
import Derived.Test.YtmnlagmmbfjbeaaGreatDoorBlt18
import Derived.Test.YtmnlagmmbfjbeaaGreatDoorIdxRd
import Derived.Test.YtmnlagmmbfjbeaaGreatDoorBitFits
import Derived.Test.YtmnlagmmbfjbeaaGreatDoorSeekAll
import Derived.Test.YtmnlagmmbfjbeaaGreatDoorInvL
import Derived.Test.YtmnlagmmbfjbeaaGreatDoorIdxEq
namespace Go.Proofs.YtmnlagmmbfjbeaaGreatDoor
set_option linter.unusedVariables false
set_option linter.unusedSimpArgs false
section
open Go.RowKit Go.Shelf
attribute [local go_sem] Oper.semAt_some

/-- facts that stay under a relation of one's own -/
structure FactR (R : World → World → Prop) where
  holds : Value → World → Prop
  stays : ∀ v w w', R w w' → holds v w → holds v w'
def FactR.any (R : World → World → Prop) : FactR R := ⟨fun _ _ => True, fun _ _ _ _ _ => trivial⟩
def FactR.is {R : World → World → Prop} (x : Value) : FactR R := ⟨fun v _ => v = x, fun _ _ _ _ h => h⟩
def factRAt {R : World → World → Prop} (fs : List (FactR R)) (k : Nat) (v : Value) (w : World) : Prop := (fs.getD k (FactR.any R)).holds v w
theorem factRAt_stays {R : World → World → Prop} (fs : List (FactR R)) (k : Nat) (v : Value) (w w' : World) (h : R w w') : factRAt fs k v w → factRAt fs k v w' := (fs.getD k (FactR.any R)).stays _ _ _ h
end

section
open Go.RowKit Go.Shelf
attribute [local go_sem] Oper.semAt_some

end
end Go.Proofs.YtmnlagmmbfjbeaaGreatDoor
