/-
  NARROWER THAN 'FOR EVERY INPUT', by the rows' own cells (each row's printed sentence says how): OmTurns: laid · OmOrder: laid · OmCompares: laid · OmMoves: laid · OmNames: laid.
  DERIVED. THE GIVEN ROWS OF THIS SEAT. 5 by the template 'for every input the law returns true; each argument reads behind the call as it read before'; 0 by the template 'total and deterministic' (their statements: YtjhpblejlchhjaaGreatDoorTotals.lean).
  GIVEN WITH THE SEED: the statements are not yours to turn. If you find one false, say at which input.
  Laid BY PROGRAM, IN A SANDBOX (cutbox-rows.mjs): the forced cells as the released guide's own fill.sh prints them over the translation c2e12e0ca7d7d136… (all of the seat's roots in one cut). By AI agents, Wed Nov 11 2026. No macro, syntax, notation, axiom, sorry.
-/
import Derived.Test.YtjhpblejlchhjaaGreatDoorChecked
import GoSem.Claim
import GoSem.ClaimJoined
import GoSem.ClaimMapViews
import Derived.JoinedTies
import Derived.KernelRfl
namespace Go.Proofs.YtjhpblejlchhjaaGreatDoor
/- THE CELL 'sum', in the pinned program and in every row, IS THE sha256 OF THE DUMP (.gsa) THAT YtjhpblejlchhjaaGreatDoorProg.lean LOADS. Nothing in Lean hashes anything: it is a label: what it is worth is what the hold of that sum in a sandbox is worth. -/
noncomputable def Tryz.pinned : Pinned := { name := "ytjhpblejlchhjaagreatdoor", sum := "c2e12e0ca7d7d136314510d9736f98aac76424e7e6a2c0a0b3cf649469d450cb", checked := Tryz.checked }
namespace Rows
def none {H : Type} : Left H := { results := [], args := [] }

/- WHAT THE LISTED PACKAGE-LEVEL VARIABLES READ AS WHEN THE CALL BEGINS. Each datum BY PROGRAM (the guide's laid-datum.mjs) off the statement by which the dump's own 'gosem.cut.vars' lays the variable. In a bare row this is a premise. The card (YtjhpblejlchhjaaGreatDoorCards.lean) ties it to the program's text. -/
def laid_math_bits_deBruijn64tab {H : Type} : DataW H := .agg [.lit (.int .u8 0), .lit (.int .u8 1), .lit (.int .u8 56), .lit (.int .u8 2), .lit (.int .u8 57), .lit (.int .u8 49), .lit (.int .u8 28), .lit (.int .u8 3), .lit (.int .u8 61), .lit (.int .u8 58), .lit (.int .u8 42), .lit (.int .u8 50), .lit (.int .u8 38), .lit (.int .u8 29), .lit (.int .u8 17), .lit (.int .u8 4), .lit (.int .u8 62), .lit (.int .u8 47), .lit (.int .u8 59), .lit (.int .u8 36), .lit (.int .u8 45), .lit (.int .u8 43), .lit (.int .u8 51), .lit (.int .u8 22), .lit (.int .u8 53), .lit (.int .u8 39), .lit (.int .u8 33), .lit (.int .u8 30), .lit (.int .u8 24), .lit (.int .u8 18), .lit (.int .u8 12), .lit (.int .u8 5), .lit (.int .u8 63), .lit (.int .u8 55), .lit (.int .u8 48), .lit (.int .u8 27), .lit (.int .u8 60), .lit (.int .u8 41), .lit (.int .u8 37), .lit (.int .u8 16), .lit (.int .u8 46), .lit (.int .u8 35), .lit (.int .u8 44), .lit (.int .u8 21), .lit (.int .u8 52), .lit (.int .u8 32), .lit (.int .u8 23), .lit (.int .u8 11), .lit (.int .u8 54), .lit (.int .u8 26), .lit (.int .u8 40), .lit (.int .u8 15), .lit (.int .u8 34), .lit (.int .u8 20), .lit (.int .u8 31), .lit (.int .u8 10), .lit (.int .u8 25), .lit (.int .u8 14), .lit (.int .u8 19), .lit (.int .u8 9), .lit (.int .u8 13), .lit (.int .u8 8), .lit (.int .u8 7), .lit (.int .u8 6)]

/-- 'shelfmarklaw15.OmTurns': WHATEVER THE INPUT: true; the input reads as it did. -/
def omTurnsSpec : ChangeSpec := { name := "omTurns", fn := fun _ => fun
  | [d1, d2] => { results := [.lit (.bool true)], args := [d1, d2] }
  | _ => none }
def omTurnsRow : OpenClaim := { program := "ytjhpblejlchhjaagreatdoor", sum := "c2e12e0ca7d7d136314510d9736f98aac76424e7e6a2c0a0b3cf649469d450cb", func := "shelfmark/shelfmarklaw15.OmTurns", spec := "omTurns", unfollowed := true, recurses := true, named := ["math/bits.deBruijn64tab"], apart := false, laid := [("math/bits.deBruijn64tab", laid_math_bits_deBruijn64tab)] }
def OmTurnsSaid : Prop := omTurnsRow.holds Tryz.pinned (OpenSpec.ofChange omTurnsSpec)

/-- ITS FALSE NEIGHBOUR: 'it returns false'. Refute it at one input. -/
def omTurnsWrong : ChangeSpec := { name := "omTurns", fn := fun _ => fun
  | [d1, d2] => { results := [.lit (.bool false)], args := [d1, d2] }
  | _ => none }
def OmTurnsWrongFalsely : Prop := omTurnsRow.holds Tryz.pinned (OpenSpec.ofChange omTurnsWrong)

/-- 'shelfmarklaw15.OmOrder': WHATEVER THE INPUT: true; the input reads as it did. -/
def omOrderSpec : ChangeSpec := { name := "omOrder", fn := fun _ => fun
  | [d1, d2] => { results := [.lit (.bool true)], args := [d1, d2] }
  | _ => none }
def omOrderRow : OpenClaim := { program := "ytjhpblejlchhjaagreatdoor", sum := "c2e12e0ca7d7d136314510d9736f98aac76424e7e6a2c0a0b3cf649469d450cb", func := "shelfmark/shelfmarklaw15.OmOrder", spec := "omOrder", unfollowed := true, recurses := true, named := ["math/bits.deBruijn64tab"], apart := false, laid := [("math/bits.deBruijn64tab", laid_math_bits_deBruijn64tab)] }
def OmOrderSaid : Prop := omOrderRow.holds Tryz.pinned (OpenSpec.ofChange omOrderSpec)

/-- ITS FALSE NEIGHBOUR: 'it returns false'. Refute it at one input. -/
def omOrderWrong : ChangeSpec := { name := "omOrder", fn := fun _ => fun
  | [d1, d2] => { results := [.lit (.bool false)], args := [d1, d2] }
  | _ => none }
def OmOrderWrongFalsely : Prop := omOrderRow.holds Tryz.pinned (OpenSpec.ofChange omOrderWrong)

/-- 'shelfmarklaw15.OmCompares': WHATEVER THE INPUT: true; the input reads as it did. -/
def omComparesSpec : ChangeSpec := { name := "omCompares", fn := fun _ => fun
  | [d1, d2, d3] => { results := [.lit (.bool true)], args := [d1, d2, d3] }
  | _ => none }
def omComparesRow : OpenClaim := { program := "ytjhpblejlchhjaagreatdoor", sum := "c2e12e0ca7d7d136314510d9736f98aac76424e7e6a2c0a0b3cf649469d450cb", func := "shelfmark/shelfmarklaw15.OmCompares", spec := "omCompares", unfollowed := true, recurses := true, named := ["math/bits.deBruijn64tab"], apart := false, laid := [("math/bits.deBruijn64tab", laid_math_bits_deBruijn64tab)] }
def OmComparesSaid : Prop := omComparesRow.holds Tryz.pinned (OpenSpec.ofChange omComparesSpec)

/-- ITS FALSE NEIGHBOUR: 'it returns false'. Refute it at one input. -/
def omComparesWrong : ChangeSpec := { name := "omCompares", fn := fun _ => fun
  | [d1, d2, d3] => { results := [.lit (.bool false)], args := [d1, d2, d3] }
  | _ => none }
def OmComparesWrongFalsely : Prop := omComparesRow.holds Tryz.pinned (OpenSpec.ofChange omComparesWrong)

/-- 'shelfmarklaw15.OmMoves': WHATEVER THE INPUT: true; the input reads as it did. -/
def omMovesSpec : ChangeSpec := { name := "omMoves", fn := fun _ => fun
  | [d1, d2] => { results := [.lit (.bool true)], args := [d1, d2] }
  | _ => none }
def omMovesRow : OpenClaim := { program := "ytjhpblejlchhjaagreatdoor", sum := "c2e12e0ca7d7d136314510d9736f98aac76424e7e6a2c0a0b3cf649469d450cb", func := "shelfmark/shelfmarklaw15.OmMoves", spec := "omMoves", unfollowed := true, recurses := true, named := ["math/bits.deBruijn64tab"], apart := false, laid := [("math/bits.deBruijn64tab", laid_math_bits_deBruijn64tab)] }
def OmMovesSaid : Prop := omMovesRow.holds Tryz.pinned (OpenSpec.ofChange omMovesSpec)

/-- ITS FALSE NEIGHBOUR: 'it returns false'. Refute it at one input. -/
def omMovesWrong : ChangeSpec := { name := "omMoves", fn := fun _ => fun
  | [d1, d2] => { results := [.lit (.bool false)], args := [d1, d2] }
  | _ => none }
def OmMovesWrongFalsely : Prop := omMovesRow.holds Tryz.pinned (OpenSpec.ofChange omMovesWrong)

/-- 'shelfmarklaw15.OmNames': WHATEVER THE INPUT: true; the input reads as it did. -/
def omNamesSpec : ChangeSpec := { name := "omNames", fn := fun _ => fun
  | [] => { results := [.lit (.bool true)], args := [] }
  | _ => none }
def omNamesRow : OpenClaim := { program := "ytjhpblejlchhjaagreatdoor", sum := "c2e12e0ca7d7d136314510d9736f98aac76424e7e6a2c0a0b3cf649469d450cb", func := "shelfmark/shelfmarklaw15.OmNames", spec := "omNames", unfollowed := true, recurses := true, named := ["math/bits.deBruijn64tab"], apart := false, laid := [("math/bits.deBruijn64tab", laid_math_bits_deBruijn64tab)] }
def OmNamesSaid : Prop := omNamesRow.holds Tryz.pinned (OpenSpec.ofChange omNamesSpec)

/-- ITS FALSE NEIGHBOUR: 'it returns false'. Refute it at one input. -/
def omNamesWrong : ChangeSpec := { name := "omNames", fn := fun _ => fun
  | [] => { results := [.lit (.bool false)], args := [] }
  | _ => none }
def OmNamesWrongFalsely : Prop := omNamesRow.holds Tryz.pinned (OpenSpec.ofChange omNamesWrong)

/- THE SECOND FORM. 'bulk': how many values and letters a reading holds, each counted each time it is reached (what is shared counts as often as it is met; a slice's spare places count too). A statement '..UptoSaid' is the law's where the arguments, and the package variables that the reading takes, are together of bulk at most 1048576: NARROWER than '..Said'. Prove '..Said' where nothing that the law and all that it calls make is longer than what came in: it says more and counts as full. Else prove '..UptoSaid'. A law counts once. -/
mutual
def uptoBulk {H : Type} : DataW H → Nat
  | .lit (.string bytes) => bytes.length + 1
  | .lit _ => 1
  | .nil => 1
  | .ptr d => uptoBulk d + 1
  | .slice elems spare => uptoBulkAll elems + uptoBulkAll spare + 1
  | .agg parts => uptoBulkAll parts + 1
  | .iface _ d => uptoBulk d + 1
  | .map entries => uptoBulkEntries entries + 1
  | .held _ => 1
def uptoBulkAll {H : Type} : List (DataW H) → Nat
  | [] => 0
  | d :: r => uptoBulk d + uptoBulkAll r
def uptoBulkEntries {H : Type} : List (Lit × DataW H) → Nat
  | [] => 0
  | x :: r => uptoBulkEntry x + uptoBulkEntries r
def uptoBulkEntry {H : Type} : Lit × DataW H → Nat
  | (.string bytes, d) => bytes.length + uptoBulk d + 1
  | (_, d) => uptoBulk d + 1
 end
def uptoSmall : (H : Type) → List (DataW H) → Bool := fun _ ds => decide (uptoBulkAll ds ≤ 1048576)
def OpenSpec.upto (s : _root_.Go.ChangeSpec) : _root_.Go.OpenSpec := { _root_.Go.OpenSpec.ofChange s with cond := some uptoSmall }

/-- 'shelfmarklaw15.OmTurns', WHERE WHAT IT READS IS OF BULK AT MOST 1048576: true; the input reads as it did. -/
def omTurnsUptoRow : OpenClaim := { program := "ytjhpblejlchhjaagreatdoor", sum := "c2e12e0ca7d7d136314510d9736f98aac76424e7e6a2c0a0b3cf649469d450cb", func := "shelfmark/shelfmarklaw15.OmTurns", spec := "omTurns", unfollowed := true, recurses := true, named := ["math/bits.deBruijn64tab"], apart := false, laid := [("math/bits.deBruijn64tab", laid_math_bits_deBruijn64tab)], narrowed := true }
def OmTurnsUptoSaid : Prop := omTurnsUptoRow.holds Tryz.pinned (OpenSpec.upto omTurnsSpec)

/-- 'shelfmarklaw15.OmOrder', WHERE WHAT IT READS IS OF BULK AT MOST 1048576: true; the input reads as it did. -/
def omOrderUptoRow : OpenClaim := { program := "ytjhpblejlchhjaagreatdoor", sum := "c2e12e0ca7d7d136314510d9736f98aac76424e7e6a2c0a0b3cf649469d450cb", func := "shelfmark/shelfmarklaw15.OmOrder", spec := "omOrder", unfollowed := true, recurses := true, named := ["math/bits.deBruijn64tab"], apart := false, laid := [("math/bits.deBruijn64tab", laid_math_bits_deBruijn64tab)], narrowed := true }
def OmOrderUptoSaid : Prop := omOrderUptoRow.holds Tryz.pinned (OpenSpec.upto omOrderSpec)

/-- 'shelfmarklaw15.OmCompares', WHERE WHAT IT READS IS OF BULK AT MOST 1048576: true; the input reads as it did. -/
def omComparesUptoRow : OpenClaim := { program := "ytjhpblejlchhjaagreatdoor", sum := "c2e12e0ca7d7d136314510d9736f98aac76424e7e6a2c0a0b3cf649469d450cb", func := "shelfmark/shelfmarklaw15.OmCompares", spec := "omCompares", unfollowed := true, recurses := true, named := ["math/bits.deBruijn64tab"], apart := false, laid := [("math/bits.deBruijn64tab", laid_math_bits_deBruijn64tab)], narrowed := true }
def OmComparesUptoSaid : Prop := omComparesUptoRow.holds Tryz.pinned (OpenSpec.upto omComparesSpec)

/-- 'shelfmarklaw15.OmMoves', WHERE WHAT IT READS IS OF BULK AT MOST 1048576: true; the input reads as it did. -/
def omMovesUptoRow : OpenClaim := { program := "ytjhpblejlchhjaagreatdoor", sum := "c2e12e0ca7d7d136314510d9736f98aac76424e7e6a2c0a0b3cf649469d450cb", func := "shelfmark/shelfmarklaw15.OmMoves", spec := "omMoves", unfollowed := true, recurses := true, named := ["math/bits.deBruijn64tab"], apart := false, laid := [("math/bits.deBruijn64tab", laid_math_bits_deBruijn64tab)], narrowed := true }
def OmMovesUptoSaid : Prop := omMovesUptoRow.holds Tryz.pinned (OpenSpec.upto omMovesSpec)

/-- 'shelfmarklaw15.OmNames', WHERE WHAT IT READS IS OF BULK AT MOST 1048576: true; the input reads as it did. -/
def omNamesUptoRow : OpenClaim := { program := "ytjhpblejlchhjaagreatdoor", sum := "c2e12e0ca7d7d136314510d9736f98aac76424e7e6a2c0a0b3cf649469d450cb", func := "shelfmark/shelfmarklaw15.OmNames", spec := "omNames", unfollowed := true, recurses := true, named := ["math/bits.deBruijn64tab"], apart := false, laid := [("math/bits.deBruijn64tab", laid_math_bits_deBruijn64tab)], narrowed := true }
def OmNamesUptoSaid : Prop := omNamesUptoRow.holds Tryz.pinned (OpenSpec.upto omNamesSpec)

end Rows
end Go.Proofs.YtjhpblejlchhjaaGreatDoor
