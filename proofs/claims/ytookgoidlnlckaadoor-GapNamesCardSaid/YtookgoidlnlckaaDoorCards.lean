/-
  DERIVED. GIVEN WITH THE SEED: THE CARDS: each row of YtookgoidlnlckaaDoorRows.lean that lists a variable, with what it lists TIED to the program's text (the seventh form; the later family's looks); each row that meets fmt, with fmt's text TOLD by the authors' own Lean function (tested against real Go, not proved from fmt's source: count such statements apart). THE CARD IS WHAT COUNTS. Prove the row's statement (the work); the ties are given (YtookgoidlnlckaaDoorTie.lean); close each card by the builder's one call (the guide's Derived/Test/ToyasCard.lean, 'card_holds'). Laid BY PROGRAM, IN A SANDBOX (cutbox-door.mjs). By AI agents, Wed Nov 11 2026. No macro, syntax, notation, axiom, sorry.
-/
import Derived.Test.YtookgoidlnlckaaDoorRows
import GoSem.ClaimSeven
namespace Go.Proofs.YtookgoidlnlckaaDoor
namespace Rows

/-- THE TIED CARD OF 'shelfmarklaw09.GapCost'. -/
def gapCostCard : Claim7 := { stood := { row := gapCostRow, standIns := [], harness := (true, "87665ccfaaf8b3eb09201e2fb1f47396364d800b6d7c3a17f2c5fe55a9d91e04"), looks := false }, kinds := [], alts := [], laidByText := true, laidKinds := [.data], laidTests := true, laidLooks := .later }
def GapCostCardSaid : Prop := Claim7.holds Tryd.pinned (.plain (OpenSpec.ofChange gapCostSpec)) gapCostCard

/-- THE TIED CARD OF 'shelfmarklaw09.GapNames'. -/
def gapNamesCard : Claim7 := { stood := { row := gapNamesRow, standIns := [], harness := (true, "87665ccfaaf8b3eb09201e2fb1f47396364d800b6d7c3a17f2c5fe55a9d91e04"), looks := false }, kinds := [], alts := [], laidByText := true, laidKinds := [.data], laidTests := true, laidLooks := .later }
def GapNamesCardSaid : Prop := Claim7.holds Tryd.pinned (.plain (OpenSpec.ofChange gapNamesSpec)) gapNamesCard

/-- THE TIED CARD OF 'shelfmarklaw09.GapDense'. -/
def gapDenseCard : Claim7 := { stood := { row := gapDenseRow, standIns := [], harness := (true, "87665ccfaaf8b3eb09201e2fb1f47396364d800b6d7c3a17f2c5fe55a9d91e04"), looks := false }, kinds := [], alts := [], laidByText := true, laidKinds := [.data], laidTests := true, laidLooks := .later }
def GapDenseCardSaid : Prop := Claim7.holds Tryd.pinned (.plain (OpenSpec.ofChange gapDenseSpec)) gapDenseCard

/-- THE TIED CARD OF 'shelfmarklaw09.GapOrder'. -/
def gapOrderCard : Claim7 := { stood := { row := gapOrderRow, standIns := [], harness := (true, "87665ccfaaf8b3eb09201e2fb1f47396364d800b6d7c3a17f2c5fe55a9d91e04"), looks := false }, kinds := [], alts := [], laidByText := true, laidKinds := [.data], laidTests := true, laidLooks := .later }
def GapOrderCardSaid : Prop := Claim7.holds Tryd.pinned (.plain (OpenSpec.ofChange gapOrderSpec)) gapOrderCard

/-- THE SECOND FORM's CARD OF 'shelfmarklaw09.GapCost'. -/
def gapCostUptoCard : Claim7 := { stood := { row := gapCostUptoRow, standIns := [], harness := (true, "87665ccfaaf8b3eb09201e2fb1f47396364d800b6d7c3a17f2c5fe55a9d91e04"), looks := false }, kinds := [], alts := [], laidByText := true, laidKinds := [.data], laidTests := true, laidLooks := .later }
def GapCostUptoCardSaid : Prop := Claim7.holds Tryd.pinned (.plain (OpenSpec.upto gapCostSpec)) gapCostUptoCard

/-- THE SECOND FORM's CARD OF 'shelfmarklaw09.GapNames'. -/
def gapNamesUptoCard : Claim7 := { stood := { row := gapNamesUptoRow, standIns := [], harness := (true, "87665ccfaaf8b3eb09201e2fb1f47396364d800b6d7c3a17f2c5fe55a9d91e04"), looks := false }, kinds := [], alts := [], laidByText := true, laidKinds := [.data], laidTests := true, laidLooks := .later }
def GapNamesUptoCardSaid : Prop := Claim7.holds Tryd.pinned (.plain (OpenSpec.upto gapNamesSpec)) gapNamesUptoCard

/-- THE SECOND FORM's CARD OF 'shelfmarklaw09.GapDense'. -/
def gapDenseUptoCard : Claim7 := { stood := { row := gapDenseUptoRow, standIns := [], harness := (true, "87665ccfaaf8b3eb09201e2fb1f47396364d800b6d7c3a17f2c5fe55a9d91e04"), looks := false }, kinds := [], alts := [], laidByText := true, laidKinds := [.data], laidTests := true, laidLooks := .later }
def GapDenseUptoCardSaid : Prop := Claim7.holds Tryd.pinned (.plain (OpenSpec.upto gapDenseSpec)) gapDenseUptoCard

/-- THE SECOND FORM's CARD OF 'shelfmarklaw09.GapOrder'. -/
def gapOrderUptoCard : Claim7 := { stood := { row := gapOrderUptoRow, standIns := [], harness := (true, "87665ccfaaf8b3eb09201e2fb1f47396364d800b6d7c3a17f2c5fe55a9d91e04"), looks := false }, kinds := [], alts := [], laidByText := true, laidKinds := [.data], laidTests := true, laidLooks := .later }
def GapOrderUptoCardSaid : Prop := Claim7.holds Tryd.pinned (.plain (OpenSpec.upto gapOrderSpec)) gapOrderUptoCard
end Rows
end Go.Proofs.YtookgoidlnlckaaDoor
