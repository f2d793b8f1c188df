/-
  DERIVED. GIVEN WITH THE SEED: THE CARDS: each row of YtfmoghjddfjfmaaDoorRows.lean that lists a variable, with what it lists TIED to the program's text (the seventh form; the later family's looks); each row that meets fmt, with fmt's text TOLD by the authors' own Lean function (tested against real Go, not proved from fmt's source: count such statements apart). THE CARD IS WHAT COUNTS. Prove the row's statement (the work); the ties are given (YtfmoghjddfjfmaaDoorTie.lean); close each card by the builder's one call (the guide's Derived/Test/ToyasCard.lean, 'card_holds'). Laid BY PROGRAM, IN A SANDBOX (cutbox-door.mjs). By AI agents, Wed Nov 11 2026. No macro, syntax, notation, axiom, sorry.
-/
import Derived.Test.YtfmoghjddfjfmaaDoorRows
import GoSem.ClaimSeven
namespace Go.Proofs.YtfmoghjddfjfmaaDoor
namespace Rows

/-- THE TIED CARD OF 'shelfmarklaw19.DownHome'. -/
def downHomeCard : Claim7 := { stood := { row := downHomeRow, standIns := [], harness := (true, "973789d227948d3c0e27b26616fede460d01e157b98375c48e58600d976e3406"), looks := false }, kinds := [], alts := [], laidByText := true, laidKinds := [.data], laidTests := true, laidLooks := .later }
def DownHomeCardSaid : Prop := Claim7.holds Tryd.pinned (.plain (OpenSpec.ofChange downHomeSpec)) downHomeCard

/-- THE SECOND FORM's CARD OF 'shelfmarklaw19.DownHome'. -/
def downHomeUptoCard : Claim7 := { stood := { row := downHomeUptoRow, standIns := [], harness := (true, "973789d227948d3c0e27b26616fede460d01e157b98375c48e58600d976e3406"), looks := false }, kinds := [], alts := [], laidByText := true, laidKinds := [.data], laidTests := true, laidLooks := .later }
def DownHomeUptoCardSaid : Prop := Claim7.holds Tryd.pinned (.plain (OpenSpec.upto downHomeSpec)) downHomeUptoCard
end Rows
end Go.Proofs.YtfmoghjddfjfmaaDoor
