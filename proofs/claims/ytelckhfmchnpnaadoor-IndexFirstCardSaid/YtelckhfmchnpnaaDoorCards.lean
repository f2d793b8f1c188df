/-
  DERIVED. GIVEN WITH THE SEED: THE CARDS: each row of YtelckhfmchnpnaaDoorRows.lean that lists a variable, with what it lists TIED to the program's text (the seventh form; the later family's looks); each row that meets fmt, with fmt's text TOLD by the authors' own Lean function (tested against real Go, not proved from fmt's source: count such statements apart). THE CARD IS WHAT COUNTS. Prove the row's statement (the work); the ties are given (YtelckhfmchnpnaaDoorTie.lean); close each card by the builder's one call (the guide's Derived/Test/ToyasCard.lean, 'card_holds'). Laid BY PROGRAM, IN A SANDBOX (cutbox-door.mjs). By AI agents, Wed Nov 11 2026. No macro, syntax, notation, axiom, sorry.
-/
import Derived.Test.YtelckhfmchnpnaaDoorRows
import GoSem.ClaimSeven
namespace Go.Proofs.YtelckhfmchnpnaaDoor
namespace Rows

/-- THE TIED CARD OF 'shelfmarklaw18.IndexFirst'. -/
def indexFirstCard : Claim7 := { stood := { row := indexFirstRow, standIns := [], harness := (true, "64c2d64e4608e69c653ee6a700edefd64a6d926dc6c79495eab246838c529a62"), looks := false }, kinds := [], alts := [], laidByText := true, laidKinds := [.data], laidTests := true, laidLooks := .later }
def IndexFirstCardSaid : Prop := Claim7.holds Tryd.pinned (.plain (OpenSpec.ofChange indexFirstSpec)) indexFirstCard

/-- THE SECOND FORM's CARD OF 'shelfmarklaw18.IndexFirst'. -/
def indexFirstUptoCard : Claim7 := { stood := { row := indexFirstUptoRow, standIns := [], harness := (true, "64c2d64e4608e69c653ee6a700edefd64a6d926dc6c79495eab246838c529a62"), looks := false }, kinds := [], alts := [], laidByText := true, laidKinds := [.data], laidTests := true, laidLooks := .later }
def IndexFirstUptoCardSaid : Prop := Claim7.holds Tryd.pinned (.plain (OpenSpec.upto indexFirstSpec)) indexFirstUptoCard
end Rows
end Go.Proofs.YtelckhfmchnpnaaDoor
