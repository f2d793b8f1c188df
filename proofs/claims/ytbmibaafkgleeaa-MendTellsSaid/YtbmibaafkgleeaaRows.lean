/-
  No cell of these rows narrows 'for every input' (looked for: loops, veiled, ifaces, maps, wideKeys, modest, calm, conditions, laid).
  DERIVED. THE GIVEN ROWS OF THIS SEAT. 6 by the template 'for every input the law returns true; each argument reads behind the call as it read before'; 0 by the template 'total and deterministic' (their statements: YtbmibaafkgleeaaTotals.lean).
  GIVEN WITH THE SEED: the statements are not yours to turn. If you find one false, say at which input.
  Laid BY PROGRAM, IN A SANDBOX (cutbox-rows.mjs): the forced cells as the released guide's own fill.sh prints them over the translation 864c9dab0747c5a5… (all of the seat's roots in one cut). By AI agents, Wed Nov 11 2026. No macro, syntax, notation, axiom, sorry.
-/
import Derived.Test.YtbmibaafkgleeaaChecked
import GoSem.Claim
import GoSem.ClaimJoined
import GoSem.ClaimMapViews
import Derived.JoinedTies
import Derived.KernelRfl
namespace Go.Proofs.Ytbmibaafkgleeaa
/- THE CELL 'sum', in the pinned program and in every row, IS THE sha256 OF THE DUMP (.gsa) THAT YtbmibaafkgleeaaProg.lean LOADS. Nothing in Lean hashes anything: it is a label: what it is worth is what the hold of that sum in a sandbox is worth. -/
noncomputable def Try.pinned : Pinned := { name := "ytbmibaafkgleeaa", sum := "864c9dab0747c5a5ac3a70ff1ddb7e48f6b291e49dfbdf4f6e2671c5ad2b781c", checked := Try.checked }
namespace Rows
def none {H : Type} : Left H := { results := [], args := [] }

/-- 'shelfmarklaw20.MendTells': WHATEVER THE INPUT: true; the input reads as it did. -/
def mendTellsSpec : ChangeSpec := { name := "mendTells", fn := fun _ => fun
  | [d1, d2, d3, d4] => { results := [.lit (.bool true)], args := [d1, d2, d3, d4] }
  | _ => none }
def mendTellsRow : OpenClaim := { program := "ytbmibaafkgleeaa", sum := "864c9dab0747c5a5ac3a70ff1ddb7e48f6b291e49dfbdf4f6e2671c5ad2b781c", func := "shelfmark/shelfmarklaw20.MendTells", spec := "mendTells", unfollowed := true, recurses := true, apart := false }
def MendTellsSaid : Prop := mendTellsRow.holds Try.pinned (OpenSpec.ofChange mendTellsSpec)

/-- ITS FALSE NEIGHBOUR: 'it returns false'. Refute it at one input. -/
def mendTellsWrong : ChangeSpec := { name := "mendTells", fn := fun _ => fun
  | [d1, d2, d3, d4] => { results := [.lit (.bool false)], args := [d1, d2, d3, d4] }
  | _ => none }
def MendTellsWrongFalsely : Prop := mendTellsRow.holds Try.pinned (OpenSpec.ofChange mendTellsWrong)

/-- 'shelfmarklaw20.MendFits': WHATEVER THE INPUT: true; the input reads as it did. -/
def mendFitsSpec : ChangeSpec := { name := "mendFits", fn := fun _ => fun
  | [d1, d2, d3] => { results := [.lit (.bool true)], args := [d1, d2, d3] }
  | _ => none }
def mendFitsRow : OpenClaim := { program := "ytbmibaafkgleeaa", sum := "864c9dab0747c5a5ac3a70ff1ddb7e48f6b291e49dfbdf4f6e2671c5ad2b781c", func := "shelfmark/shelfmarklaw20.MendFits", spec := "mendFits", unfollowed := true, recurses := true, apart := false }
def MendFitsSaid : Prop := mendFitsRow.holds Try.pinned (OpenSpec.ofChange mendFitsSpec)

/-- ITS FALSE NEIGHBOUR: 'it returns false'. Refute it at one input. -/
def mendFitsWrong : ChangeSpec := { name := "mendFits", fn := fun _ => fun
  | [d1, d2, d3] => { results := [.lit (.bool false)], args := [d1, d2, d3] }
  | _ => none }
def MendFitsWrongFalsely : Prop := mendFitsRow.holds Try.pinned (OpenSpec.ofChange mendFitsWrong)

/-- 'shelfmarklaw20.MendAround': WHATEVER THE INPUT: true; the input reads as it did. -/
def mendAroundSpec : ChangeSpec := { name := "mendAround", fn := fun _ => fun
  | [d1, d2, d3, d4] => { results := [.lit (.bool true)], args := [d1, d2, d3, d4] }
  | _ => none }
def mendAroundRow : OpenClaim := { program := "ytbmibaafkgleeaa", sum := "864c9dab0747c5a5ac3a70ff1ddb7e48f6b291e49dfbdf4f6e2671c5ad2b781c", func := "shelfmark/shelfmarklaw20.MendAround", spec := "mendAround", unfollowed := true, recurses := true, apart := false }
def MendAroundSaid : Prop := mendAroundRow.holds Try.pinned (OpenSpec.ofChange mendAroundSpec)

/-- ITS FALSE NEIGHBOUR: 'it returns false'. Refute it at one input. -/
def mendAroundWrong : ChangeSpec := { name := "mendAround", fn := fun _ => fun
  | [d1, d2, d3, d4] => { results := [.lit (.bool false)], args := [d1, d2, d3, d4] }
  | _ => none }
def MendAroundWrongFalsely : Prop := mendAroundRow.holds Try.pinned (OpenSpec.ofChange mendAroundWrong)

/-- 'shelfmarklaw20.MendInside': WHATEVER THE INPUT: true; the input reads as it did. -/
def mendInsideSpec : ChangeSpec := { name := "mendInside", fn := fun _ => fun
  | [d1, d2, d3] => { results := [.lit (.bool true)], args := [d1, d2, d3] }
  | _ => none }
def mendInsideRow : OpenClaim := { program := "ytbmibaafkgleeaa", sum := "864c9dab0747c5a5ac3a70ff1ddb7e48f6b291e49dfbdf4f6e2671c5ad2b781c", func := "shelfmark/shelfmarklaw20.MendInside", spec := "mendInside", unfollowed := true, recurses := true, apart := false }
def MendInsideSaid : Prop := mendInsideRow.holds Try.pinned (OpenSpec.ofChange mendInsideSpec)

/-- ITS FALSE NEIGHBOUR: 'it returns false'. Refute it at one input. -/
def mendInsideWrong : ChangeSpec := { name := "mendInside", fn := fun _ => fun
  | [d1, d2, d3] => { results := [.lit (.bool false)], args := [d1, d2, d3] }
  | _ => none }
def MendInsideWrongFalsely : Prop := mendInsideRow.holds Try.pinned (OpenSpec.ofChange mendInsideWrong)

/-- 'shelfmarklaw20.MendNames': WHATEVER THE INPUT: true; the input reads as it did. -/
def mendNamesSpec : ChangeSpec := { name := "mendNames", fn := fun _ => fun
  | [] => { results := [.lit (.bool true)], args := [] }
  | _ => none }
def mendNamesRow : OpenClaim := { program := "ytbmibaafkgleeaa", sum := "864c9dab0747c5a5ac3a70ff1ddb7e48f6b291e49dfbdf4f6e2671c5ad2b781c", func := "shelfmark/shelfmarklaw20.MendNames", spec := "mendNames", unfollowed := true, recurses := true, apart := false }
def MendNamesSaid : Prop := mendNamesRow.holds Try.pinned (OpenSpec.ofChange mendNamesSpec)

/-- ITS FALSE NEIGHBOUR: 'it returns false'. Refute it at one input. -/
def mendNamesWrong : ChangeSpec := { name := "mendNames", fn := fun _ => fun
  | [] => { results := [.lit (.bool false)], args := [] }
  | _ => none }
def MendNamesWrongFalsely : Prop := mendNamesRow.holds Try.pinned (OpenSpec.ofChange mendNamesWrong)

/-- 'shelfmarklaw20.MendTrue': WHATEVER THE INPUT: true; the input reads as it did. -/
def mendTrueSpec : ChangeSpec := { name := "mendTrue", fn := fun _ => fun
  | [d1, d2, d3] => { results := [.lit (.bool true)], args := [d1, d2, d3] }
  | _ => none }
def mendTrueRow : OpenClaim := { program := "ytbmibaafkgleeaa", sum := "864c9dab0747c5a5ac3a70ff1ddb7e48f6b291e49dfbdf4f6e2671c5ad2b781c", func := "shelfmark/shelfmarklaw20.MendTrue", spec := "mendTrue", unfollowed := true, recurses := true, apart := false }
def MendTrueSaid : Prop := mendTrueRow.holds Try.pinned (OpenSpec.ofChange mendTrueSpec)

/-- ITS FALSE NEIGHBOUR: 'it returns false'. Refute it at one input. -/
def mendTrueWrong : ChangeSpec := { name := "mendTrue", fn := fun _ => fun
  | [d1, d2, d3] => { results := [.lit (.bool false)], args := [d1, d2, d3] }
  | _ => none }
def MendTrueWrongFalsely : Prop := mendTrueRow.holds Try.pinned (OpenSpec.ofChange mendTrueWrong)

/- THE SECOND FORM. 'bulk': how many values and letters a reading holds, each counted each time it is reached (what is shared counts as often as it is met; a slice's spare places count too). A statement '..UptoSaid' is the law's where the arguments, and the package variables that the reading takes, are together of bulk at most 1048576: NARROWER than '..Said'. Prove '..Said' where nothing that the law and all that it calls make is longer than what came in: it says more and counts as full. Else prove '..UptoSaid'. A law counts once. -/
mutual
def uptoBulk {H : Type} : DataW H → Nat
  | .lit (.string bytes) => bytes.length + 1
  | .lit _ => 1
  | .nil => 1
  | .ptr d => uptoBulk d + 1
  | .slice elems spare => uptoBulkAll elems + uptoBulkAll spare + 1
  | .agg parts => uptoBulkAll parts + 1
  | .iface _ d => uptoBulk d + 1
  | .map entries => uptoBulkEntries entries + 1
  | .held _ => 1
def uptoBulkAll {H : Type} : List (DataW H) → Nat
  | [] => 0
  | d :: r => uptoBulk d + uptoBulkAll r
def uptoBulkEntries {H : Type} : List (Lit × DataW H) → Nat
  | [] => 0
  | x :: r => uptoBulkEntry x + uptoBulkEntries r
def uptoBulkEntry {H : Type} : Lit × DataW H → Nat
  | (.string bytes, d) => bytes.length + uptoBulk d + 1
  | (_, d) => uptoBulk d + 1
 end
def uptoSmall : (H : Type) → List (DataW H) → Bool := fun _ ds => decide (uptoBulkAll ds ≤ 1048576)
def OpenSpec.upto (s : _root_.Go.ChangeSpec) : _root_.Go.OpenSpec := { _root_.Go.OpenSpec.ofChange s with cond := some uptoSmall }

/-- 'shelfmarklaw20.MendTells', WHERE WHAT IT READS IS OF BULK AT MOST 1048576: true; the input reads as it did. -/
def mendTellsUptoRow : OpenClaim := { program := "ytbmibaafkgleeaa", sum := "864c9dab0747c5a5ac3a70ff1ddb7e48f6b291e49dfbdf4f6e2671c5ad2b781c", func := "shelfmark/shelfmarklaw20.MendTells", spec := "mendTells", unfollowed := true, recurses := true, apart := false, narrowed := true }
def MendTellsUptoSaid : Prop := mendTellsUptoRow.holds Try.pinned (OpenSpec.upto mendTellsSpec)

/-- 'shelfmarklaw20.MendFits', WHERE WHAT IT READS IS OF BULK AT MOST 1048576: true; the input reads as it did. -/
def mendFitsUptoRow : OpenClaim := { program := "ytbmibaafkgleeaa", sum := "864c9dab0747c5a5ac3a70ff1ddb7e48f6b291e49dfbdf4f6e2671c5ad2b781c", func := "shelfmark/shelfmarklaw20.MendFits", spec := "mendFits", unfollowed := true, recurses := true, apart := false, narrowed := true }
def MendFitsUptoSaid : Prop := mendFitsUptoRow.holds Try.pinned (OpenSpec.upto mendFitsSpec)

/-- 'shelfmarklaw20.MendAround', WHERE WHAT IT READS IS OF BULK AT MOST 1048576: true; the input reads as it did. -/
def mendAroundUptoRow : OpenClaim := { program := "ytbmibaafkgleeaa", sum := "864c9dab0747c5a5ac3a70ff1ddb7e48f6b291e49dfbdf4f6e2671c5ad2b781c", func := "shelfmark/shelfmarklaw20.MendAround", spec := "mendAround", unfollowed := true, recurses := true, apart := false, narrowed := true }
def MendAroundUptoSaid : Prop := mendAroundUptoRow.holds Try.pinned (OpenSpec.upto mendAroundSpec)

/-- 'shelfmarklaw20.MendInside', WHERE WHAT IT READS IS OF BULK AT MOST 1048576: true; the input reads as it did. -/
def mendInsideUptoRow : OpenClaim := { program := "ytbmibaafkgleeaa", sum := "864c9dab0747c5a5ac3a70ff1ddb7e48f6b291e49dfbdf4f6e2671c5ad2b781c", func := "shelfmark/shelfmarklaw20.MendInside", spec := "mendInside", unfollowed := true, recurses := true, apart := false, narrowed := true }
def MendInsideUptoSaid : Prop := mendInsideUptoRow.holds Try.pinned (OpenSpec.upto mendInsideSpec)

/-- 'shelfmarklaw20.MendNames', WHERE WHAT IT READS IS OF BULK AT MOST 1048576: true; the input reads as it did. -/
def mendNamesUptoRow : OpenClaim := { program := "ytbmibaafkgleeaa", sum := "864c9dab0747c5a5ac3a70ff1ddb7e48f6b291e49dfbdf4f6e2671c5ad2b781c", func := "shelfmark/shelfmarklaw20.MendNames", spec := "mendNames", unfollowed := true, recurses := true, apart := false, narrowed := true }
def MendNamesUptoSaid : Prop := mendNamesUptoRow.holds Try.pinned (OpenSpec.upto mendNamesSpec)

/-- 'shelfmarklaw20.MendTrue', WHERE WHAT IT READS IS OF BULK AT MOST 1048576: true; the input reads as it did. -/
def mendTrueUptoRow : OpenClaim := { program := "ytbmibaafkgleeaa", sum := "864c9dab0747c5a5ac3a70ff1ddb7e48f6b291e49dfbdf4f6e2671c5ad2b781c", func := "shelfmark/shelfmarklaw20.MendTrue", spec := "mendTrue", unfollowed := true, recurses := true, apart := false, narrowed := true }
def MendTrueUptoSaid : Prop := mendTrueUptoRow.holds Try.pinned (OpenSpec.upto mendTrueSpec)

end Rows
end Go.Proofs.Ytbmibaafkgleeaa
