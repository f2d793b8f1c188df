/-
  DERIVED. GIVEN WITH THE SEED: THE CARDS: each row of YtmnlagmmbfjbeaaDoorRows.lean that lists a variable, with what it lists TIED to the program's text (the seventh form; the later family's looks); each row that meets fmt, with fmt's text TOLD by the authors' own Lean function (tested against real Go, not proved from fmt's source: count such statements apart). THE CARD IS WHAT COUNTS. Prove the row's statement (the work); the ties are given (YtmnlagmmbfjbeaaDoorTie.lean); close each card by the builder's one call (the guide's Derived/Test/ToyasCard.lean, 'card_holds'). Laid BY PROGRAM, IN A SANDBOX (cutbox-door.mjs). By AI agents, Wed Nov 11 2026. No macro, syntax, notation, axiom, sorry.
-/
import Derived.Test.YtmnlagmmbfjbeaaDoorRows
import GoSem.ClaimSeven
namespace Go.Proofs.YtmnlagmmbfjbeaaDoor
namespace Rows

/-- THE TIED CARD OF 'shelfmarklaw11.PmaGets'. -/
def pmaGetsCard : Claim7 := { stood := { row := pmaGetsRow, standIns := [], harness := (true, "224d21df79f58a3f9a01b1318c63df0073ffca624955bea6f9efc2ac213b099d"), looks := false }, kinds := [], alts := [], laidByText := true, laidKinds := [.data], laidTests := true, laidLooks := .later }
def PmaGetsCardSaid : Prop := Claim7.holds Tryd.pinned (.plain (OpenSpec.ofChange pmaGetsSpec)) pmaGetsCard

/-- THE TIED CARD OF 'shelfmarklaw11.PmaWalks'. -/
def pmaWalksCard : Claim7 := { stood := { row := pmaWalksRow, standIns := [], harness := (true, "224d21df79f58a3f9a01b1318c63df0073ffca624955bea6f9efc2ac213b099d"), looks := false }, kinds := [], alts := [], laidByText := true, laidKinds := [.data], laidTests := true, laidLooks := .later }
def PmaWalksCardSaid : Prop := Claim7.holds Tryd.pinned (.plain (OpenSpec.ofChange pmaWalksSpec)) pmaWalksCard

/-- THE TIED CARD OF 'shelfmarklaw11.PmaNames'. -/
def pmaNamesCard : Claim7 := { stood := { row := pmaNamesRow, standIns := [], harness := (true, "224d21df79f58a3f9a01b1318c63df0073ffca624955bea6f9efc2ac213b099d"), looks := false }, kinds := [], alts := [], laidByText := true, laidKinds := [.data], laidTests := true, laidLooks := .later }
def PmaNamesCardSaid : Prop := Claim7.holds Tryd.pinned (.plain (OpenSpec.ofChange pmaNamesSpec)) pmaNamesCard

/-- THE SECOND FORM's CARD OF 'shelfmarklaw11.PmaGets'. -/
def pmaGetsUptoCard : Claim7 := { stood := { row := pmaGetsUptoRow, standIns := [], harness := (true, "224d21df79f58a3f9a01b1318c63df0073ffca624955bea6f9efc2ac213b099d"), looks := false }, kinds := [], alts := [], laidByText := true, laidKinds := [.data], laidTests := true, laidLooks := .later }
def PmaGetsUptoCardSaid : Prop := Claim7.holds Tryd.pinned (.plain (OpenSpec.upto pmaGetsSpec)) pmaGetsUptoCard

/-- THE SECOND FORM's CARD OF 'shelfmarklaw11.PmaWalks'. -/
def pmaWalksUptoCard : Claim7 := { stood := { row := pmaWalksUptoRow, standIns := [], harness := (true, "224d21df79f58a3f9a01b1318c63df0073ffca624955bea6f9efc2ac213b099d"), looks := false }, kinds := [], alts := [], laidByText := true, laidKinds := [.data], laidTests := true, laidLooks := .later }
def PmaWalksUptoCardSaid : Prop := Claim7.holds Tryd.pinned (.plain (OpenSpec.upto pmaWalksSpec)) pmaWalksUptoCard

/-- THE SECOND FORM's CARD OF 'shelfmarklaw11.PmaNames'. -/
def pmaNamesUptoCard : Claim7 := { stood := { row := pmaNamesUptoRow, standIns := [], harness := (true, "224d21df79f58a3f9a01b1318c63df0073ffca624955bea6f9efc2ac213b099d"), looks := false }, kinds := [], alts := [], laidByText := true, laidKinds := [.data], laidTests := true, laidLooks := .later }
def PmaNamesUptoCardSaid : Prop := Claim7.holds Tryd.pinned (.plain (OpenSpec.upto pmaNamesSpec)) pmaNamesUptoCard
end Rows
end Go.Proofs.YtmnlagmmbfjbeaaDoor
