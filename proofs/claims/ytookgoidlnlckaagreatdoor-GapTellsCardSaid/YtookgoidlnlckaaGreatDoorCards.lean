/-
  DERIVED. GIVEN WITH THE SEED: THE CARDS: each row of YtookgoidlnlckaaGreatDoorRows.lean that lists a variable, with what it lists TIED to the program's text (the seventh form; the later family's looks); each row that meets fmt, with fmt's text TOLD by the authors' own Lean function (tested against real Go, not proved from fmt's source: count such statements apart). THE CARD IS WHAT COUNTS. Prove the row's statement (the work); the ties are given (YtookgoidlnlckaaGreatDoorTie.lean); close each card by the builder's one call (the guide's Derived/Test/ToyasCard.lean, 'card_holds'). Laid BY PROGRAM, IN A SANDBOX (cutbox-door.mjs). By AI agents, Wed Nov 11 2026. No macro, syntax, notation, axiom, sorry.
-/
import Derived.Test.YtookgoidlnlckaaGreatDoorRows
import GoSem.ClaimSeven
namespace Go.Proofs.YtookgoidlnlckaaGreatDoor
namespace Rows

/-- THE TIED CARD OF 'shelfmarklaw09.GapTells'. -/
def gapTellsCard : Claim7 := { stood := { row := gapTellsRow, standIns := [], harness := (true, "05b8c743f8f88206b75415572c757c70c66926c8662ffe64e996286f3cf4227c"), looks := false }, kinds := [], alts := [], laidByText := true, laidKinds := [.data], laidTests := true, laidLooks := .later }
def GapTellsCardSaid : Prop := Claim7.holds Tryz.pinned (.plain (OpenSpec.ofChange gapTellsSpec)) gapTellsCard

/-- THE SECOND FORM's CARD OF 'shelfmarklaw09.GapTells'. -/
def gapTellsUptoCard : Claim7 := { stood := { row := gapTellsUptoRow, standIns := [], harness := (true, "05b8c743f8f88206b75415572c757c70c66926c8662ffe64e996286f3cf4227c"), looks := false }, kinds := [], alts := [], laidByText := true, laidKinds := [.data], laidTests := true, laidLooks := .later }
def GapTellsUptoCardSaid : Prop := Claim7.holds Tryz.pinned (.plain (OpenSpec.upto gapTellsSpec)) gapTellsUptoCard
end Rows
end Go.Proofs.YtookgoidlnlckaaGreatDoor
