/-
  DERIVED. GIVEN WITH THE SEED: THE CARDS: each row of YtmnlagmmbfjbeaaGreatDoorRows.lean that lists a variable, with what it lists TIED to the program's text (the seventh form; the later family's looks); each row that meets fmt, with fmt's text TOLD by the authors' own Lean function (tested against real Go, not proved from fmt's source: count such statements apart). THE CARD IS WHAT COUNTS. Prove the row's statement (the work); the ties are given (YtmnlagmmbfjbeaaGreatDoorTie.lean); close each card by the builder's one call (the guide's Derived/Test/ToyasCard.lean, 'card_holds'). Laid BY PROGRAM, IN A SANDBOX (cutbox-door.mjs). By AI agents, Wed Nov 11 2026. No macro, syntax, notation, axiom, sorry.
-/
import Derived.Test.YtmnlagmmbfjbeaaGreatDoorRows
import GoSem.ClaimSeven
namespace Go.Proofs.YtmnlagmmbfjbeaaGreatDoor
namespace Rows

/-- THE TIED CARD OF 'shelfmarklaw11.PmaTells'. -/
def pmaTellsCard : Claim7 := { stood := { row := pmaTellsRow, standIns := [], harness := (true, "e794c37fc1cf7bb14744bd574e88645f3e20ec1335b4057d6127b95b9707256e"), looks := false }, kinds := [], alts := [], laidByText := true, laidKinds := [.data], laidTests := true, laidLooks := .later }
def PmaTellsCardSaid : Prop := Claim7.holds Tryz.pinned (.plain (OpenSpec.ofChange pmaTellsSpec)) pmaTellsCard

/-- THE TIED CARD OF 'shelfmarklaw11.PmaTurns'. -/
def pmaTurnsCard : Claim7 := { stood := { row := pmaTurnsRow, standIns := [], harness := (true, "e794c37fc1cf7bb14744bd574e88645f3e20ec1335b4057d6127b95b9707256e"), looks := false }, kinds := [], alts := [], laidByText := true, laidKinds := [.data], laidTests := true, laidLooks := .later }
def PmaTurnsCardSaid : Prop := Claim7.holds Tryz.pinned (.plain (OpenSpec.ofChange pmaTurnsSpec)) pmaTurnsCard

/-- THE SECOND FORM's CARD OF 'shelfmarklaw11.PmaTells'. -/
def pmaTellsUptoCard : Claim7 := { stood := { row := pmaTellsUptoRow, standIns := [], harness := (true, "e794c37fc1cf7bb14744bd574e88645f3e20ec1335b4057d6127b95b9707256e"), looks := false }, kinds := [], alts := [], laidByText := true, laidKinds := [.data], laidTests := true, laidLooks := .later }
def PmaTellsUptoCardSaid : Prop := Claim7.holds Tryz.pinned (.plain (OpenSpec.upto pmaTellsSpec)) pmaTellsUptoCard

/-- THE SECOND FORM's CARD OF 'shelfmarklaw11.PmaTurns'. -/
def pmaTurnsUptoCard : Claim7 := { stood := { row := pmaTurnsUptoRow, standIns := [], harness := (true, "e794c37fc1cf7bb14744bd574e88645f3e20ec1335b4057d6127b95b9707256e"), looks := false }, kinds := [], alts := [], laidByText := true, laidKinds := [.data], laidTests := true, laidLooks := .later }
def PmaTurnsUptoCardSaid : Prop := Claim7.holds Tryz.pinned (.plain (OpenSpec.upto pmaTurnsSpec)) pmaTurnsUptoCard
end Rows
end Go.Proofs.YtmnlagmmbfjbeaaGreatDoor
