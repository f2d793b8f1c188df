/-
  DERIVED. GIVEN WITH THE SEED: THE CARDS: each row of YtjhpblejlchhjaaGreatDoorRows.lean that lists a variable, with what it lists TIED to the program's text (the seventh form; the later family's looks); each row that meets fmt, with fmt's text TOLD by the authors' own Lean function (tested against real Go, not proved from fmt's source: count such statements apart). THE CARD IS WHAT COUNTS. Prove the row's statement (the work); the ties are given (YtjhpblejlchhjaaGreatDoorTie.lean); close each card by the builder's one call (the guide's Derived/Test/ToyasCard.lean, 'card_holds'). Laid BY PROGRAM, IN A SANDBOX (cutbox-door.mjs). By AI agents, Wed Nov 11 2026. No macro, syntax, notation, axiom, sorry.
-/
import Derived.Test.YtjhpblejlchhjaaGreatDoorRows
import GoSem.ClaimSeven
namespace Go.Proofs.YtjhpblejlchhjaaGreatDoor
namespace Rows

/-- THE TIED CARD OF 'shelfmarklaw15.OmTurns'. -/
def omTurnsCard : Claim7 := { stood := { row := omTurnsRow, standIns := [], harness := (true, "d7166eba042deb9f0749470339ed455f0a3efbec25b4ab495d302393d23c238e"), looks := false }, kinds := [], alts := [], laidByText := true, laidKinds := [.data], laidTests := true, laidLooks := .later }
def OmTurnsCardSaid : Prop := Claim7.holds Tryz.pinned (.plain (OpenSpec.ofChange omTurnsSpec)) omTurnsCard

/-- THE TIED CARD OF 'shelfmarklaw15.OmOrder'. -/
def omOrderCard : Claim7 := { stood := { row := omOrderRow, standIns := [], harness := (true, "d7166eba042deb9f0749470339ed455f0a3efbec25b4ab495d302393d23c238e"), looks := false }, kinds := [], alts := [], laidByText := true, laidKinds := [.data], laidTests := true, laidLooks := .later }
def OmOrderCardSaid : Prop := Claim7.holds Tryz.pinned (.plain (OpenSpec.ofChange omOrderSpec)) omOrderCard

/-- THE TIED CARD OF 'shelfmarklaw15.OmCompares'. -/
def omComparesCard : Claim7 := { stood := { row := omComparesRow, standIns := [], harness := (true, "d7166eba042deb9f0749470339ed455f0a3efbec25b4ab495d302393d23c238e"), looks := false }, kinds := [], alts := [], laidByText := true, laidKinds := [.data], laidTests := true, laidLooks := .later }
def OmComparesCardSaid : Prop := Claim7.holds Tryz.pinned (.plain (OpenSpec.ofChange omComparesSpec)) omComparesCard

/-- THE TIED CARD OF 'shelfmarklaw15.OmMoves'. -/
def omMovesCard : Claim7 := { stood := { row := omMovesRow, standIns := [], harness := (true, "d7166eba042deb9f0749470339ed455f0a3efbec25b4ab495d302393d23c238e"), looks := false }, kinds := [], alts := [], laidByText := true, laidKinds := [.data], laidTests := true, laidLooks := .later }
def OmMovesCardSaid : Prop := Claim7.holds Tryz.pinned (.plain (OpenSpec.ofChange omMovesSpec)) omMovesCard

/-- THE TIED CARD OF 'shelfmarklaw15.OmNames'. -/
def omNamesCard : Claim7 := { stood := { row := omNamesRow, standIns := [], harness := (true, "d7166eba042deb9f0749470339ed455f0a3efbec25b4ab495d302393d23c238e"), looks := false }, kinds := [], alts := [], laidByText := true, laidKinds := [.data], laidTests := true, laidLooks := .later }
def OmNamesCardSaid : Prop := Claim7.holds Tryz.pinned (.plain (OpenSpec.ofChange omNamesSpec)) omNamesCard

/-- THE SECOND FORM's CARD OF 'shelfmarklaw15.OmTurns'. -/
def omTurnsUptoCard : Claim7 := { stood := { row := omTurnsUptoRow, standIns := [], harness := (true, "d7166eba042deb9f0749470339ed455f0a3efbec25b4ab495d302393d23c238e"), looks := false }, kinds := [], alts := [], laidByText := true, laidKinds := [.data], laidTests := true, laidLooks := .later }
def OmTurnsUptoCardSaid : Prop := Claim7.holds Tryz.pinned (.plain (OpenSpec.upto omTurnsSpec)) omTurnsUptoCard

/-- THE SECOND FORM's CARD OF 'shelfmarklaw15.OmOrder'. -/
def omOrderUptoCard : Claim7 := { stood := { row := omOrderUptoRow, standIns := [], harness := (true, "d7166eba042deb9f0749470339ed455f0a3efbec25b4ab495d302393d23c238e"), looks := false }, kinds := [], alts := [], laidByText := true, laidKinds := [.data], laidTests := true, laidLooks := .later }
def OmOrderUptoCardSaid : Prop := Claim7.holds Tryz.pinned (.plain (OpenSpec.upto omOrderSpec)) omOrderUptoCard

/-- THE SECOND FORM's CARD OF 'shelfmarklaw15.OmCompares'. -/
def omComparesUptoCard : Claim7 := { stood := { row := omComparesUptoRow, standIns := [], harness := (true, "d7166eba042deb9f0749470339ed455f0a3efbec25b4ab495d302393d23c238e"), looks := false }, kinds := [], alts := [], laidByText := true, laidKinds := [.data], laidTests := true, laidLooks := .later }
def OmComparesUptoCardSaid : Prop := Claim7.holds Tryz.pinned (.plain (OpenSpec.upto omComparesSpec)) omComparesUptoCard

/-- THE SECOND FORM's CARD OF 'shelfmarklaw15.OmMoves'. -/
def omMovesUptoCard : Claim7 := { stood := { row := omMovesUptoRow, standIns := [], harness := (true, "d7166eba042deb9f0749470339ed455f0a3efbec25b4ab495d302393d23c238e"), looks := false }, kinds := [], alts := [], laidByText := true, laidKinds := [.data], laidTests := true, laidLooks := .later }
def OmMovesUptoCardSaid : Prop := Claim7.holds Tryz.pinned (.plain (OpenSpec.upto omMovesSpec)) omMovesUptoCard

/-- THE SECOND FORM's CARD OF 'shelfmarklaw15.OmNames'. -/
def omNamesUptoCard : Claim7 := { stood := { row := omNamesUptoRow, standIns := [], harness := (true, "d7166eba042deb9f0749470339ed455f0a3efbec25b4ab495d302393d23c238e"), looks := false }, kinds := [], alts := [], laidByText := true, laidKinds := [.data], laidTests := true, laidLooks := .later }
def OmNamesUptoCardSaid : Prop := Claim7.holds Tryz.pinned (.plain (OpenSpec.upto omNamesSpec)) omNamesUptoCard
end Rows
end Go.Proofs.YtjhpblejlchhjaaGreatDoor
