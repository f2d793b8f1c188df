/-
  DERIVED. GIVEN WITH THE SEED: THE CARDS: each row of YtbedhbpgnfffmaaGreatDoorRows.lean that lists a variable, with what it lists TIED to the program's text (the seventh form; the later family's looks); each row that meets fmt, with fmt's text TOLD by the authors' own Lean function (tested against real Go, not proved from fmt's source: count such statements apart). THE CARD IS WHAT COUNTS. Prove the row's statement (the work); the ties are given (YtbedhbpgnfffmaaGreatDoorTie.lean); close each card by the builder's one call (the guide's Derived/Test/ToyasCard.lean, 'card_holds'). Laid BY PROGRAM, IN A SANDBOX (cutbox-door.mjs). By AI agents, Wed Nov 11 2026. No macro, syntax, notation, axiom, sorry.
-/
import Derived.Test.YtbedhbpgnfffmaaGreatDoorRows
import GoSem.ClaimSeven
namespace Go.Proofs.YtbedhbpgnfffmaaGreatDoor
namespace Rows

/-- THE TIED CARD OF 'shelfmarklaw21.CobTurns'. -/
def cobTurnsCard : Claim7 := { stood := { row := cobTurnsRow, standIns := [], harness := (true, "eaa8c7215a3377a838610bcad4f4d5526ca8bab975dbb2877145d593a4d0abc5"), looks := false }, kinds := [], alts := [], laidByText := true, laidKinds := [.data], laidTests := true, laidLooks := .later }
def CobTurnsCardSaid : Prop := Claim7.holds Tryz.pinned (.plain (OpenSpec.ofChange cobTurnsSpec)) cobTurnsCard

/-- THE TIED CARD OF 'shelfmarklaw21.CobAnswers'. -/
def cobAnswersCard : Claim7 := { stood := { row := cobAnswersRow, standIns := [], harness := (true, "eaa8c7215a3377a838610bcad4f4d5526ca8bab975dbb2877145d593a4d0abc5"), looks := false }, kinds := [], alts := [], laidByText := true, laidKinds := [.data], laidTests := true, laidLooks := .later }
def CobAnswersCardSaid : Prop := Claim7.holds Tryz.pinned (.plain (OpenSpec.ofChange cobAnswersSpec)) cobAnswersCard

/-- THE TIED CARD OF 'shelfmarklaw21.CobRight'. -/
def cobRightCard : Claim7 := { stood := { row := cobRightRow, standIns := [], harness := (true, "eaa8c7215a3377a838610bcad4f4d5526ca8bab975dbb2877145d593a4d0abc5"), looks := false }, kinds := [], alts := [], laidByText := true, laidKinds := [.data], laidTests := true, laidLooks := .later }
def CobRightCardSaid : Prop := Claim7.holds Tryz.pinned (.plain (OpenSpec.ofChange cobRightSpec)) cobRightCard

/-- THE TIED CARD OF 'shelfmarklaw21.CobNames'. -/
def cobNamesCard : Claim7 := { stood := { row := cobNamesRow, standIns := [], harness := (true, "eaa8c7215a3377a838610bcad4f4d5526ca8bab975dbb2877145d593a4d0abc5"), looks := false }, kinds := [], alts := [], laidByText := true, laidKinds := [.data], laidTests := true, laidLooks := .later }
def CobNamesCardSaid : Prop := Claim7.holds Tryz.pinned (.plain (OpenSpec.ofChange cobNamesSpec)) cobNamesCard

/-- THE SECOND FORM's CARD OF 'shelfmarklaw21.CobTurns'. -/
def cobTurnsUptoCard : Claim7 := { stood := { row := cobTurnsUptoRow, standIns := [], harness := (true, "eaa8c7215a3377a838610bcad4f4d5526ca8bab975dbb2877145d593a4d0abc5"), looks := false }, kinds := [], alts := [], laidByText := true, laidKinds := [.data], laidTests := true, laidLooks := .later }
def CobTurnsUptoCardSaid : Prop := Claim7.holds Tryz.pinned (.plain (OpenSpec.upto cobTurnsSpec)) cobTurnsUptoCard

/-- THE SECOND FORM's CARD OF 'shelfmarklaw21.CobAnswers'. -/
def cobAnswersUptoCard : Claim7 := { stood := { row := cobAnswersUptoRow, standIns := [], harness := (true, "eaa8c7215a3377a838610bcad4f4d5526ca8bab975dbb2877145d593a4d0abc5"), looks := false }, kinds := [], alts := [], laidByText := true, laidKinds := [.data], laidTests := true, laidLooks := .later }
def CobAnswersUptoCardSaid : Prop := Claim7.holds Tryz.pinned (.plain (OpenSpec.upto cobAnswersSpec)) cobAnswersUptoCard

/-- THE SECOND FORM's CARD OF 'shelfmarklaw21.CobRight'. -/
def cobRightUptoCard : Claim7 := { stood := { row := cobRightUptoRow, standIns := [], harness := (true, "eaa8c7215a3377a838610bcad4f4d5526ca8bab975dbb2877145d593a4d0abc5"), looks := false }, kinds := [], alts := [], laidByText := true, laidKinds := [.data], laidTests := true, laidLooks := .later }
def CobRightUptoCardSaid : Prop := Claim7.holds Tryz.pinned (.plain (OpenSpec.upto cobRightSpec)) cobRightUptoCard

/-- THE SECOND FORM's CARD OF 'shelfmarklaw21.CobNames'. -/
def cobNamesUptoCard : Claim7 := { stood := { row := cobNamesUptoRow, standIns := [], harness := (true, "eaa8c7215a3377a838610bcad4f4d5526ca8bab975dbb2877145d593a4d0abc5"), looks := false }, kinds := [], alts := [], laidByText := true, laidKinds := [.data], laidTests := true, laidLooks := .later }
def CobNamesUptoCardSaid : Prop := Claim7.holds Tryz.pinned (.plain (OpenSpec.upto cobNamesSpec)) cobNamesUptoCard
end Rows
end Go.Proofs.YtbedhbpgnfffmaaGreatDoor
