/-
  No cell of these rows narrows 'for every input' (looked for: loops, veiled, ifaces, maps, wideKeys, modest, calm, conditions, laid).
  DERIVED. THE GIVEN ROWS OF THIS SEAT. 5 by the template 'for every input the law returns true; each argument reads behind the call as it read before'; 0 by the template 'total and deterministic' (their statements: YtbbacfhhkfgaoaaTotals.lean).
  GIVEN WITH THE SEED: the statements are not yours to turn. If you find one false, say at which input.
  Laid BY PROGRAM, IN A SANDBOX (cutbox-rows.mjs): the forced cells as the released guide's own fill.sh prints them over the translation 795fa625ccdee55d… (all of the seat's roots in one cut). By AI agents, Wed Nov 11 2026. No macro, syntax, notation, axiom, sorry.
-/
import Derived.Test.YtbbacfhhkfgaoaaChecked
import GoSem.Claim
import GoSem.ClaimJoined
import GoSem.ClaimMapViews
import Derived.JoinedTies
import Derived.KernelRfl
namespace Go.Proofs.Ytbbacfhhkfgaoaa
/- THE CELL 'sum', in the pinned program and in every row, IS THE sha256 OF THE DUMP (.gsa) THAT YtbbacfhhkfgaoaaProg.lean LOADS. Nothing in Lean hashes anything: it is a label: what it is worth is what the hold of that sum in a sandbox is worth. -/
noncomputable def Try.pinned : Pinned := { name := "ytbbacfhhkfgaoaa", sum := "795fa625ccdee55d5a6619cba420d0bfaa18298d854829b311e6376260d73692", checked := Try.checked }
namespace Rows
def none {H : Type} : Left H := { results := [], args := [] }

/-- 'shelfmarklaw16.HeapHalves': WHATEVER THE INPUT: true; the input reads as it did. -/
def heapHalvesSpec : ChangeSpec := { name := "heapHalves", fn := fun _ => fun
  | [d1, d2] => { results := [.lit (.bool true)], args := [d1, d2] }
  | _ => none }
def heapHalvesRow : OpenClaim := { program := "ytbbacfhhkfgaoaa", sum := "795fa625ccdee55d5a6619cba420d0bfaa18298d854829b311e6376260d73692", func := "shelfmark/shelfmarklaw16.HeapHalves", spec := "heapHalves", unfollowed := true, recurses := true, apart := false }
def HeapHalvesSaid : Prop := heapHalvesRow.holds Try.pinned (OpenSpec.ofChange heapHalvesSpec)

/-- ITS FALSE NEIGHBOUR: 'it returns false'. Refute it at one input. -/
def heapHalvesWrong : ChangeSpec := { name := "heapHalves", fn := fun _ => fun
  | [d1, d2] => { results := [.lit (.bool false)], args := [d1, d2] }
  | _ => none }
def HeapHalvesWrongFalsely : Prop := heapHalvesRow.holds Try.pinned (OpenSpec.ofChange heapHalvesWrong)

/-- 'shelfmarklaw16.HeapParts': WHATEVER THE INPUT: true; the input reads as it did. -/
def heapPartsSpec : ChangeSpec := { name := "heapParts", fn := fun _ => fun
  | [d] => { results := [.lit (.bool true)], args := [d] }
  | _ => none }
def heapPartsRow : OpenClaim := { program := "ytbbacfhhkfgaoaa", sum := "795fa625ccdee55d5a6619cba420d0bfaa18298d854829b311e6376260d73692", func := "shelfmark/shelfmarklaw16.HeapParts", spec := "heapParts", unfollowed := true, recurses := true, apart := false }
def HeapPartsSaid : Prop := heapPartsRow.holds Try.pinned (OpenSpec.ofChange heapPartsSpec)

/-- ITS FALSE NEIGHBOUR: 'it returns false'. Refute it at one input. -/
def heapPartsWrong : ChangeSpec := { name := "heapParts", fn := fun _ => fun
  | [d] => { results := [.lit (.bool false)], args := [d] }
  | _ => none }
def HeapPartsWrongFalsely : Prop := heapPartsRow.holds Try.pinned (OpenSpec.ofChange heapPartsWrong)

/-- 'shelfmarklaw16.HeapNames': WHATEVER THE INPUT: true; the input reads as it did. -/
def heapNamesSpec : ChangeSpec := { name := "heapNames", fn := fun _ => fun
  | [] => { results := [.lit (.bool true)], args := [] }
  | _ => none }
def heapNamesRow : OpenClaim := { program := "ytbbacfhhkfgaoaa", sum := "795fa625ccdee55d5a6619cba420d0bfaa18298d854829b311e6376260d73692", func := "shelfmark/shelfmarklaw16.HeapNames", spec := "heapNames", unfollowed := true, recurses := true, apart := false }
def HeapNamesSaid : Prop := heapNamesRow.holds Try.pinned (OpenSpec.ofChange heapNamesSpec)

/-- ITS FALSE NEIGHBOUR: 'it returns false'. Refute it at one input. -/
def heapNamesWrong : ChangeSpec := { name := "heapNames", fn := fun _ => fun
  | [] => { results := [.lit (.bool false)], args := [] }
  | _ => none }
def HeapNamesWrongFalsely : Prop := heapNamesRow.holds Try.pinned (OpenSpec.ofChange heapNamesWrong)

/-- 'shelfmarklaw16.HeapTells': WHATEVER THE INPUT: true; the input reads as it did. -/
def heapTellsSpec : ChangeSpec := { name := "heapTells", fn := fun _ => fun
  | [d1, d2] => { results := [.lit (.bool true)], args := [d1, d2] }
  | _ => none }
def heapTellsRow : OpenClaim := { program := "ytbbacfhhkfgaoaa", sum := "795fa625ccdee55d5a6619cba420d0bfaa18298d854829b311e6376260d73692", func := "shelfmark/shelfmarklaw16.HeapTells", spec := "heapTells", unfollowed := true, recurses := true, apart := false }
def HeapTellsSaid : Prop := heapTellsRow.holds Try.pinned (OpenSpec.ofChange heapTellsSpec)

/-- ITS FALSE NEIGHBOUR: 'it returns false'. Refute it at one input. -/
def heapTellsWrong : ChangeSpec := { name := "heapTells", fn := fun _ => fun
  | [d1, d2] => { results := [.lit (.bool false)], args := [d1, d2] }
  | _ => none }
def HeapTellsWrongFalsely : Prop := heapTellsRow.holds Try.pinned (OpenSpec.ofChange heapTellsWrong)

/-- 'shelfmarklaw16.HeapPaths': WHATEVER THE INPUT: true; the input reads as it did. -/
def heapPathsSpec : ChangeSpec := { name := "heapPaths", fn := fun _ => fun
  | [d1, d2] => { results := [.lit (.bool true)], args := [d1, d2] }
  | _ => none }
def heapPathsRow : OpenClaim := { program := "ytbbacfhhkfgaoaa", sum := "795fa625ccdee55d5a6619cba420d0bfaa18298d854829b311e6376260d73692", func := "shelfmark/shelfmarklaw16.HeapPaths", spec := "heapPaths", unfollowed := true, recurses := true, apart := false }
def HeapPathsSaid : Prop := heapPathsRow.holds Try.pinned (OpenSpec.ofChange heapPathsSpec)

/-- ITS FALSE NEIGHBOUR: 'it returns false'. Refute it at one input. -/
def heapPathsWrong : ChangeSpec := { name := "heapPaths", fn := fun _ => fun
  | [d1, d2] => { results := [.lit (.bool false)], args := [d1, d2] }
  | _ => none }
def HeapPathsWrongFalsely : Prop := heapPathsRow.holds Try.pinned (OpenSpec.ofChange heapPathsWrong)

/- THE SECOND FORM. 'bulk': how many values and letters a reading holds, each counted each time it is reached (what is shared counts as often as it is met; a slice's spare places count too). A statement '..UptoSaid' is the law's where the arguments, and the package variables that the reading takes, are together of bulk at most 1048576: NARROWER than '..Said'. Prove '..Said' where nothing that the law and all that it calls make is longer than what came in: it says more and counts as full. Else prove '..UptoSaid'. A law counts once. -/
mutual
def uptoBulk {H : Type} : DataW H → Nat
  | .lit (.string bytes) => bytes.length + 1
  | .lit _ => 1
  | .nil => 1
  | .ptr d => uptoBulk d + 1
  | .slice elems spare => uptoBulkAll elems + uptoBulkAll spare + 1
  | .agg parts => uptoBulkAll parts + 1
  | .iface _ d => uptoBulk d + 1
  | .map entries => uptoBulkEntries entries + 1
  | .held _ => 1
def uptoBulkAll {H : Type} : List (DataW H) → Nat
  | [] => 0
  | d :: r => uptoBulk d + uptoBulkAll r
def uptoBulkEntries {H : Type} : List (Lit × DataW H) → Nat
  | [] => 0
  | x :: r => uptoBulkEntry x + uptoBulkEntries r
def uptoBulkEntry {H : Type} : Lit × DataW H → Nat
  | (.string bytes, d) => bytes.length + uptoBulk d + 1
  | (_, d) => uptoBulk d + 1
 end
def uptoSmall : (H : Type) → List (DataW H) → Bool := fun _ ds => decide (uptoBulkAll ds ≤ 1048576)
def OpenSpec.upto (s : _root_.Go.ChangeSpec) : _root_.Go.OpenSpec := { _root_.Go.OpenSpec.ofChange s with cond := some uptoSmall }

/-- 'shelfmarklaw16.HeapHalves', WHERE WHAT IT READS IS OF BULK AT MOST 1048576: true; the input reads as it did. -/
def heapHalvesUptoRow : OpenClaim := { program := "ytbbacfhhkfgaoaa", sum := "795fa625ccdee55d5a6619cba420d0bfaa18298d854829b311e6376260d73692", func := "shelfmark/shelfmarklaw16.HeapHalves", spec := "heapHalves", unfollowed := true, recurses := true, apart := false, narrowed := true }
def HeapHalvesUptoSaid : Prop := heapHalvesUptoRow.holds Try.pinned (OpenSpec.upto heapHalvesSpec)

/-- 'shelfmarklaw16.HeapParts', WHERE WHAT IT READS IS OF BULK AT MOST 1048576: true; the input reads as it did. -/
def heapPartsUptoRow : OpenClaim := { program := "ytbbacfhhkfgaoaa", sum := "795fa625ccdee55d5a6619cba420d0bfaa18298d854829b311e6376260d73692", func := "shelfmark/shelfmarklaw16.HeapParts", spec := "heapParts", unfollowed := true, recurses := true, apart := false, narrowed := true }
def HeapPartsUptoSaid : Prop := heapPartsUptoRow.holds Try.pinned (OpenSpec.upto heapPartsSpec)

/-- 'shelfmarklaw16.HeapNames', WHERE WHAT IT READS IS OF BULK AT MOST 1048576: true; the input reads as it did. -/
def heapNamesUptoRow : OpenClaim := { program := "ytbbacfhhkfgaoaa", sum := "795fa625ccdee55d5a6619cba420d0bfaa18298d854829b311e6376260d73692", func := "shelfmark/shelfmarklaw16.HeapNames", spec := "heapNames", unfollowed := true, recurses := true, apart := false, narrowed := true }
def HeapNamesUptoSaid : Prop := heapNamesUptoRow.holds Try.pinned (OpenSpec.upto heapNamesSpec)

/-- 'shelfmarklaw16.HeapTells', WHERE WHAT IT READS IS OF BULK AT MOST 1048576: true; the input reads as it did. -/
def heapTellsUptoRow : OpenClaim := { program := "ytbbacfhhkfgaoaa", sum := "795fa625ccdee55d5a6619cba420d0bfaa18298d854829b311e6376260d73692", func := "shelfmark/shelfmarklaw16.HeapTells", spec := "heapTells", unfollowed := true, recurses := true, apart := false, narrowed := true }
def HeapTellsUptoSaid : Prop := heapTellsUptoRow.holds Try.pinned (OpenSpec.upto heapTellsSpec)

/-- 'shelfmarklaw16.HeapPaths', WHERE WHAT IT READS IS OF BULK AT MOST 1048576: true; the input reads as it did. -/
def heapPathsUptoRow : OpenClaim := { program := "ytbbacfhhkfgaoaa", sum := "795fa625ccdee55d5a6619cba420d0bfaa18298d854829b311e6376260d73692", func := "shelfmark/shelfmarklaw16.HeapPaths", spec := "heapPaths", unfollowed := true, recurses := true, apart := false, narrowed := true }
def HeapPathsUptoSaid : Prop := heapPathsUptoRow.holds Try.pinned (OpenSpec.upto heapPathsSpec)

end Rows
end Go.Proofs.Ytbbacfhhkfgaoaa
